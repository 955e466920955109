/- Bath: the fewest baths as they are defined, carried out. -/
import Derived.Test.YtigmfpmabgekoaaGreatV4Bc1x2
section
namespace Go.Eng
open Go.Proofs
set_option linter.unusedVariables false
set_option linter.unusedSimpArgs false
set_option maxRecDepth 100000
section
variable (n l k:Nat) (z y:Nat→Int) (H:Heap)
theorem l66in (D:Nat→Bool)     (hD:∀ j,D j=false) (h:chkO l z=0) (hk:k≤1000):exec (cxD (n+5) 66 41) (.block 2 (.loop (part Tryz.f66 [1,1,0,0,0,1,0,1,0,0]))) (fr66i l z .nils 0 false 0) (lvE::H)=some (.normal,fr66i l z .nils (nxS z D l).1 (nxS z D l).2 (Int.ofNat l)++[(10,.bool false)],lvE::H):=by
 obtain ⟨hl,hb⟩:=chk_odd h
 refine forX 2 (fun j=>fr66i l z .nils (nxS z D j).1 (nxS z D j).2 (j:Int)) (fun _=>lvE::H) l (fr66i l z .nils (nxS z D l).1 (nxS z D l).2 (Int.ofNat l)++[(10,.bool false)],lvE::H) (by omega) (fun j hj=>?_) ?_
 · have b:=hb j hj
   have ej:addI .i64 (j:Int) (Int.ofNat 1)=((j+1:Nat):Int):=by rw[addI_eq,show Int.ofNat 1=1 from rfl];exact wr_64 (by omega) (by omega)
   have e5:idO 0 (j:Int) 5=j*5:=by rw[idO_eq];omega
   have s2:subI .i64 (z (j*5)) (z (j*5+2))=bHi z j:=by rw[subI_eq];exact wr_64 (by omega) (by omega)
   have hs:nxS z D (j+1)=if D j=false∧((nxS z D j).2=false∨bHi z j<(nxS z D j).1) then (bHi z j,true) else nxS z D j:=rfl
   refine ex_all (t66in (n+4) l z H (D j) (nxS z D j).2 (nxS z D j).1 (j:Int)) (il_ok _ (n+4) 1 (fun k2=>ctE_ok (noCt_ok _) (fun x hx=>by
    rw[← Tr.ok_some hx]
    rw[hD]
    have:=c73n (n+3+k2) l z (lvE::H) ((j:Nat):Int)
    rwa [show n+3+k2+1=n+4+k2 by omega] at this))) (noBT_ok _ _) (noRT_ok _ _) ?_
   simp only[addO_eq]
   rw[ej,e5,s2,hs]
   clear hs s2
   generalize D j=Dj at *
   generalize bHi z j=hi at *
   generalize nxS z D j=st at *
   obtain ⟨x,fd⟩:=st
   cases Dj<;>cases fd
   · rw[if_pos ⟨rfl,.inl rfl⟩]
     repeat' first | (refine Tr.all_ite (fun hc=>?_) (fun hc=>?_)<;>(try simp (disch:=omega) only[nV,nW] at hc)<;>try omega) | (refine Tr.all_req ?_ ?_;· (try simp (disch:=omega) only[nV,nW]);try omega) | (refine Tr.all_reqP ?_ ?_;· first | exact trivial | rfl | exact ⟨rfl,rfl⟩ | exact ⟨rfl,rfl,rfl⟩ | (simp (disch:=omega) only[nV,nW];done) | ((try simp (disch:=omega) only[nV,nW]);omega)) | fail
     all_goals first
      | exact Tr.all_ok ⟨rfl,rfl⟩
      | fail
   · by_cases hx:hi<x
     · rw[if_pos ⟨rfl,.inr hx⟩]
       repeat' first | (refine Tr.all_ite (fun hc=>?_) (fun hc=>?_)<;>(try simp (disch:=omega) only[nV,nW] at hc)<;>try omega) | (refine Tr.all_req ?_ ?_;· (try simp (disch:=omega) only[nV,nW]);try omega) | (refine Tr.all_reqP ?_ ?_;· first | exact trivial | rfl | exact ⟨rfl,rfl⟩ | exact ⟨rfl,rfl,rfl⟩ | (simp (disch:=omega) only[nV,nW];done) | ((try simp (disch:=omega) only[nV,nW]);omega)) | fail
       all_goals first
        | exact Tr.all_ok ⟨rfl,rfl⟩
        | fail
     · rw[if_neg (fun y=>by    rcases y.2 with h2 | h2
                               · cases h2
                               · exact hx h2)]
       repeat' first | (refine Tr.all_ite (fun hc=>?_) (fun hc=>?_)<;>(try simp (disch:=omega) only[nV,nW] at hc)<;>try omega) | (refine Tr.all_req ?_ ?_;· (try simp (disch:=omega) only[nV,nW]);try omega) | (refine Tr.all_reqP ?_ ?_;· first | exact trivial | rfl | exact ⟨rfl,rfl⟩ | exact ⟨rfl,rfl,rfl⟩ | (simp (disch:=omega) only[nV,nW];done) | ((try simp (disch:=omega) only[nV,nW]);omega)) | fail
       all_goals first
        | exact Tr.all_ok ⟨rfl,rfl⟩
        | fail
   · rw[if_neg (fun h=>by cases h.1)]
     repeat' first | (refine Tr.all_ite (fun hc=>?_) (fun hc=>?_)<;>(try simp (disch:=omega) only[nV,nW] at hc)<;>try omega) | (refine Tr.all_req ?_ ?_;· (try simp (disch:=omega) only[nV,nW]);try omega) | (refine Tr.all_reqP ?_ ?_;· first | exact trivial | rfl | exact ⟨rfl,rfl⟩ | exact ⟨rfl,rfl,rfl⟩ | (simp (disch:=omega) only[nV,nW];done) | ((try simp (disch:=omega) only[nV,nW]);omega)) | fail
     all_goals first
      | exact Tr.all_ok ⟨rfl,rfl⟩
      | fail
   · rw[if_neg (fun h=>by cases h.1)]
     repeat' first | (refine Tr.all_ite (fun hc=>?_) (fun hc=>?_)<;>(try simp (disch:=omega) only[nV,nW] at hc)<;>try omega) | (refine Tr.all_req ?_ ?_;· (try simp (disch:=omega) only[nV,nW]);try omega) | (refine Tr.all_reqP ?_ ?_;· first | exact trivial | rfl | exact ⟨rfl,rfl⟩ | exact ⟨rfl,rfl,rfl⟩ | (simp (disch:=omega) only[nV,nW];done) | ((try simp (disch:=omega) only[nV,nW]);omega)) | fail
     all_goals first
      | exact Tr.all_ok ⟨rfl,rfl⟩
      | fail
 · obtain ⟨x,h1,rfl⟩:=ex_all (Q:=fun x=>x=(.exit 2,fr66i l z .nils (nxS z D l).1 (nxS z D l).2 (Int.ofNat l)++[(10,.bool false)],lvE::H)) (t66xn (n+5) l z H (nxS z D l).2 (nxS z D l).1 (Int.ofNat l)) (il_no0 _) (noBT_ok _ _) (noRT_ok _ _) (by
    refine Tr.all_ite (fun hc=>?_) (fun hc=>Tr.all_ok rfl)
    simp (disch:=omega) only[nV,nW] at hc;omega)
   exact h1
theorem l66io (v:Nat) (h:chkO l z=0) (hk:k≤1000):exec (cxD (n+5) 66 41) (.block 2 (.loop (part Tryz.f66 [1,1,0,0,0,1,0,1,0,0]))) (fr66i l z (.slc 0 0 v 0 1 k none) 0 false 0) (lvO v k y::H)=some (.normal,fr66i l z (.slc 0 0 v 0 1 k none) (nxS z (dnN z y k) l).1 (nxS z (dnN z y k) l).2 (Int.ofNat l)++[(10,.bool false)],lvO v k y::H):=by
 obtain ⟨hl,hb⟩:=chk_odd h
 refine forX 2 (fun j=>fr66i l z (.slc 0 0 v 0 1 k none) (nxS z (dnN z y k) j).1 (nxS z (dnN z y k) j).2 (j:Int)) (fun _=>lvO v k y::H) l (fr66i l z (.slc 0 0 v 0 1 k none) (nxS z (dnN z y k) l).1 (nxS z (dnN z y k) l).2 (Int.ofNat l)++[(10,.bool false)],lvO v k y::H) (by omega) (fun j hj=>?_) ?_
 · have b:=hb j hj
   have ej:addI .i64 (j:Int) (Int.ofNat 1)=((j+1:Nat):Int):=by rw[addI_eq,show Int.ofNat 1=1 from rfl];exact wr_64 (by omega) (by omega)
   have e5:idO 0 (j:Int) 5=j*5:=by rw[idO_eq];omega
   have s2:subI .i64 (z (j*5)) (z (j*5+2))=bHi z j:=by rw[subI_eq];exact wr_64 (by omega) (by omega)
   have hs:nxS z (dnN z y k) (j+1)=if (dnN z y k) j=false∧((nxS z (dnN z y k) j).2=false∨bHi z j<(nxS z (dnN z y k) j).1) then (bHi z j,true) else nxS z (dnN z y k) j:=rfl
   refine ex_all (t66io (n+4) l k v z y H ((dnN z y k) j) (nxS z (dnN z y k) j).2 (nxS z (dnN z y k) j).1 (j:Int)) (il_ok _ (n+4) 1 (fun k2=>ctE_ok (noCt_ok _) (fun x hx=>by
    rw[← Tr.ok_some hx]
    have:=c73o (n+k2) l k z y H j v h hj hk
    rwa [show n+k2+4=n+4+k2 by omega] at this))) (noBT_ok _ _) (noRT_ok _ _) ?_
   simp only[addO_eq]
   rw[ej,e5,s2,hs]
   clear hs s2
   generalize (dnN z y k) j=Dj at *
   generalize bHi z j=hi at *
   generalize nxS z (dnN z y k) j=st at *
   obtain ⟨x,fd⟩:=st
   cases Dj<;>cases fd
   · rw[if_pos ⟨rfl,.inl rfl⟩]
     repeat' first | (refine Tr.all_ite (fun hc=>?_) (fun hc=>?_)<;>(try simp (disch:=omega) only[nV,nW] at hc)<;>try omega) | (refine Tr.all_req ?_ ?_;· (try simp (disch:=omega) only[nV,nW]);try omega) | (refine Tr.all_reqP ?_ ?_;· first | exact trivial | rfl | exact ⟨rfl,rfl⟩ | exact ⟨rfl,rfl,rfl⟩ | (simp (disch:=omega) only[nV,nW];done) | ((try simp (disch:=omega) only[nV,nW]);omega)) | fail
     all_goals first
      | exact Tr.all_ok ⟨rfl,rfl⟩
      | fail
   · by_cases hx:hi<x
     · rw[if_pos ⟨rfl,.inr hx⟩]
       repeat' first | (refine Tr.all_ite (fun hc=>?_) (fun hc=>?_)<;>(try simp (disch:=omega) only[nV,nW] at hc)<;>try omega) | (refine Tr.all_req ?_ ?_;· (try simp (disch:=omega) only[nV,nW]);try omega) | (refine Tr.all_reqP ?_ ?_;· first | exact trivial | rfl | exact ⟨rfl,rfl⟩ | exact ⟨rfl,rfl,rfl⟩ | (simp (disch:=omega) only[nV,nW];done) | ((try simp (disch:=omega) only[nV,nW]);omega)) | fail
       all_goals first
        | exact Tr.all_ok ⟨rfl,rfl⟩
        | fail
     · rw[if_neg (fun y=>by    rcases y.2 with h2 | h2
                               · cases h2
                               · exact hx h2)]
       repeat' first | (refine Tr.all_ite (fun hc=>?_) (fun hc=>?_)<;>(try simp (disch:=omega) only[nV,nW] at hc)<;>try omega) | (refine Tr.all_req ?_ ?_;· (try simp (disch:=omega) only[nV,nW]);try omega) | (refine Tr.all_reqP ?_ ?_;· first | exact trivial | rfl | exact ⟨rfl,rfl⟩ | exact ⟨rfl,rfl,rfl⟩ | (simp (disch:=omega) only[nV,nW];done) | ((try simp (disch:=omega) only[nV,nW]);omega)) | fail
       all_goals first
        | exact Tr.all_ok ⟨rfl,rfl⟩
        | fail
   · rw[if_neg (fun h=>by cases h.1)]
     repeat' first | (refine Tr.all_ite (fun hc=>?_) (fun hc=>?_)<;>(try simp (disch:=omega) only[nV,nW] at hc)<;>try omega) | (refine Tr.all_req ?_ ?_;· (try simp (disch:=omega) only[nV,nW]);try omega) | (refine Tr.all_reqP ?_ ?_;· first | exact trivial | rfl | exact ⟨rfl,rfl⟩ | exact ⟨rfl,rfl,rfl⟩ | (simp (disch:=omega) only[nV,nW];done) | ((try simp (disch:=omega) only[nV,nW]);omega)) | fail
     all_goals first
      | exact Tr.all_ok ⟨rfl,rfl⟩
      | fail
   · rw[if_neg (fun h=>by cases h.1)]
     repeat' first | (refine Tr.all_ite (fun hc=>?_) (fun hc=>?_)<;>(try simp (disch:=omega) only[nV,nW] at hc)<;>try omega) | (refine Tr.all_req ?_ ?_;· (try simp (disch:=omega) only[nV,nW]);try omega) | (refine Tr.all_reqP ?_ ?_;· first | exact trivial | rfl | exact ⟨rfl,rfl⟩ | exact ⟨rfl,rfl,rfl⟩ | (simp (disch:=omega) only[nV,nW];done) | ((try simp (disch:=omega) only[nV,nW]);omega)) | fail
     all_goals first
      | exact Tr.all_ok ⟨rfl,rfl⟩
      | fail
 · obtain ⟨x,h1,rfl⟩:=ex_all (Q:=fun x=>x=(.exit 2,fr66i l z (.slc 0 0 v 0 1 k none) (nxS z (dnN z y k) l).1 (nxS z (dnN z y k) l).2 (Int.ofNat l)++[(10,.bool false)],lvO v k y::H)) (t66xo (n+5) l k v z y H (nxS z (dnN z y k) l).2 (nxS z (dnN z y k) l).1 (Int.ofNat l)) (il_no0 _) (noBT_ok _ _) (noRT_ok _ _) (by
    refine Tr.all_ite (fun hc=>?_) (fun hc=>Tr.all_ok rfl)
    simp (disch:=omega) only[nV,nW] at hc;omega)
   exact h1
end
theorem dl_all {m:Nat→Int} {j:Nat} (h:∀ i,i<j→m i=1):(dl m j).length=j:=by
 induction j with
 | zero=>rfl
 | succ j ih =>
   show (if m j=1 then dl m j++[(j:Int)] else dl m j).length=_
   rw[if_pos (h j (by omega)),List.length_append,ih (fun i hi=>h i (by omega))];rfl
theorem nd_nil (z:Nat→Int) (i:Nat):doB z [] i=false:=by
 cases h:doB z [] i with
 | false=>rfl
 | true=>obtain ⟨b,h1,_⟩:=(doB_iff z [] i).1 h;cases h1
theorem nd_app (z:Nat→Int) (B:List Int) (b:Int) (l:Nat):kpt (pB z b) (lstO (dl (ndM z B) l)) (dl (ndM z B) l).length=dl (ndM z (B++[b])) l:=by
 rw[kp_dl]
 refine dl_congr (fun i hi=>?_)
 unfold ndM pB
 rw[doB_app,Int.toNat_natCast]
 cases doB z B i<;>cases dnB z b i<;>simp
noncomputable def fwP (z:Nat→Int) (L:List Int):List (Int×Int):=bsS z L.length L
section
variable (n l:Nat) (z:Nat→Int) (H:Heap)
theorem e66n (h:chkO l z=0) (hnx:nxS z (doB z []) l=(0,false)):exec (cxD (n+5) 66 41) (part Tryz.f66 [1,1,0,0]) (fr66 l z .nils) (lvE::H)=some (.ret,[(2,.nils)],lvE::H):=by
 have hx:=l66in n l 0 z H (doB z []) (nd_nil z) h (by omega)
 rw[hnx] at hx
 obtain ⟨x,y1,rfl⟩:=ex_all (Q:=fun x=>x=(.ret,[(2,.nils)],lvE::H)) (t66n (n+5) l z H false 0) (il_no0 _) (blkE_ok (noBT_ok _ _) b66i (fun x h1=>by rw[← Tr.ok_some h1];simp only[Res.st,hints_eq];exact hx)) (noRT_ok _ _) (by
  repeat' first | (refine Tr.all_ite (fun hc=>?_) (fun hc=>?_)<;>(try simp (disch:=omega) only[nV,nW] at hc)<;>try omega) | (refine Tr.all_req ?_ ?_;· (try simp (disch:=omega) only[nV,nW]);try omega) | (refine Tr.all_reqP ?_ ?_;· first | exact trivial | rfl | exact ⟨rfl,rfl⟩ | exact ⟨rfl,rfl,rfl⟩ | (simp (disch:=omega) only[nV,nW];done) | ((try simp (disch:=omega) only[nV,nW]);omega)) | fail
  all_goals first
   | exact Tr.all_ok rfl
   | fail)
 exact y1
theorem e66o (B:List Int) (k:Nat) (hB:B.length=k+1) (hk:k<1000) (h:chkO l z=0) (hnx:nxS z (doB z B) l=(0,false)):exec (cxD (n+5) 66 41) (part Tryz.f66 [1,1,0,0]) (fr66 l z (.slc 0 0 k 0 1 (k+1) none)) (lvO k (k+1) (lstO B)::H)=some (.ret,[(2,.slc 0 0 k 0 1 (k+1) none)],lvO k (k+1) (lstO B)::H):=by
 have hx:=l66io n l (k+1) z (lstO B) H k h (by omega)
 rw[← hB,show nxS z (dnN z (lstO B) B.length) l=(0,false) from hnx,hB] at hx
 obtain ⟨x,y1,rfl⟩:=ex_all (Q:=fun x=>x=(.ret,[(2,.slc 0 0 k 0 1 (k+1) none)],lvO k (k+1) (lstO B)::H)) (t66o (n+5) l (k+1) k z (lstO B) H false 0) (il_no0 _) (blkE_ok (noBT_ok _ _) b66i (fun x h1=>by rw[← Tr.ok_some h1];simp only[Res.st,hints_eq];exact hx)) (noRT_ok _ _) (by
  repeat' first | (refine Tr.all_ite (fun hc=>?_) (fun hc=>?_)<;>(try simp (disch:=omega) only[nV,nW] at hc)<;>try omega) | (refine Tr.all_req ?_ ?_;· (try simp (disch:=omega) only[nV,nW]);try omega) | (refine Tr.all_reqP ?_ ?_;· first | exact trivial | rfl | exact ⟨rfl,rfl⟩ | exact ⟨rfl,rfl,rfl⟩ | (simp (disch:=omega) only[nV,nW];done) | ((try simp (disch:=omega) only[nV,nW]);omega)) | fail
  all_goals first
   | exact Tr.all_ok rfl
   | fail)
 exact y1
theorem r66n (q:Int) (h:chkO l z=0) (hnx:nxS z (doB z []) l=(q,true)):∃ x,exec (cxD (n+5) 66 41) (part Tryz.f66 [1,1,0,0]) (fr66 l z .nils) (lvE::H)=some x∧x.1=.normal∧tidy 0 x.2.1 x.2.2=(fr66 l z (.slc 0 0 0 0 1 1 none),lvO 0 1 (lstO [q])::H):=by
 have hx:=l66in n l 0 z H (doB z []) (nd_nil z) h (by omega)
 rw[hnx] at hx
 refine ex_all (t66n (n+5) l z H true q) (il_no0 _) (blkE_ok (noBT_ok _ _) b66i (fun x h1=>by rw[← Tr.ok_some h1];simp only[Res.st,hints_eq];exact hx)) (noRT_ok _ _) ?_
 repeat' first | (refine Tr.all_ite (fun hc=>?_) (fun hc=>?_)<;>(try simp (disch:=omega) only[nV,nW] at hc)<;>try omega) | (refine Tr.all_req ?_ ?_;· (try simp (disch:=omega) only[nV,nW]);try omega) | (refine Tr.all_reqP ?_ ?_;· first | exact trivial | rfl | exact ⟨rfl,rfl⟩ | exact ⟨rfl,rfl,rfl⟩ | (simp (disch:=omega) only[nV,nW];done) | ((try simp (disch:=omega) only[nV,nW]);omega)) | fail
 all_goals first
  | exact Tr.all_ok ⟨rfl,by kernel_rfl⟩
  | fail
theorem r66o (q:Int) (B:List Int) (k:Nat) (hB:B.length=k+1) (hk:k<1000) (h:chkO l z=0) (hnx:nxS z (doB z B) l=(q,true)):∃ x,exec (cxD (n+5) 66 41) (part Tryz.f66 [1,1,0,0]) (fr66 l z (.slc 0 0 k 0 1 (k+1) none)) (lvO k (k+1) (lstO B)::H)=some x∧x.1=.normal∧tidy 0 x.2.1 x.2.2=(fr66 l z (.slc 0 0 (k+1) 0 1 (k+2) none),lvO (k+1) (k+2) (lstO (B++[q]))::H):=by
 have hx:=l66io n l (k+1) z (lstO B) H k h (by omega)
 rw[← hB,show nxS z (dnN z (lstO B) B.length) l=(q,true) from hnx,hB] at hx
 have a1:=lst_app B q
 rw[hB] at a1
 have a2:addO (k+1) 1=k+2:=by rw[addO_eq]
 refine ex_all (t66o (n+5) l (k+1) k z (lstO B) H true q) (il_no0 _) (blkE_ok (noBT_ok _ _) b66i (fun x h1=>by rw[← Tr.ok_some h1];simp only[Res.st,hints_eq];exact hx)) (noRT_ok _ _) ?_
 rw[a1,a2]
 repeat' first | (refine Tr.all_ite (fun hc=>?_) (fun hc=>?_)<;>(try simp (disch:=omega) only[nV,nW] at hc)<;>try omega) | (refine Tr.all_req ?_ ?_;· (try simp (disch:=omega) only[nV,nW]);try omega) | (refine Tr.all_reqP ?_ ?_;· first | exact trivial | rfl | exact ⟨rfl,rfl⟩ | exact ⟨rfl,rfl,rfl⟩ | (simp (disch:=omega) only[nV,nW];done) | ((try simp (disch:=omega) only[nV,nW]);omega)) | fail
 all_goals first
  | exact Tr.all_ok ⟨rfl,by kernel_rfl⟩
  | fail
theorem l66 (h:chkO l z=0) (hb:∀ i,i<l→bLo z i≤bHi z i):∃ y,exec (cxD (n+5) 66 41) (.block 0 (.loop (part Tryz.f66 [1,1,0,0]))) (fr66 l z .nils) (lvE::H)=some (.ret,y)∧y=([(2,dW ((fwP z (dl (ndM z []) l)).map (·.1)))],dLw ((fwP z (dl (ndM z []) l)).map (·.1))::H):=by
 obtain ⟨hl,_⟩:=chk_odd h
 have hN:(dl (ndM z []) l).length=l:=dl_all (fun i _=>by unfold ndM;rw[nd_nil];rfl)
 have hL0:fwP z (dl (ndM z []) l)=bsS z l (dl (ndM z []) l):=by unfold fwP;rw[hN]
 rw[hL0]
 refine loopR 0 (fun j fr Hx=>∃ S:List (Int×Int),S.length=j∧j≤l∧S++bsS z (l-j) (dl (ndM z (S.map (·.1))) l)=bsS z l (dl (ndM z []) l)∧(dl (ndM z (S.map (·.1))) l).length≤l-j∧fr=fr66 l z (dW (S.map (·.1)))∧Hx=dLw (S.map (·.1))::H) _ l (by omega) ⟨[],rfl,by omega,rfl,by show (dl (ndM z []) l).length≤_;omega,rfl,rfl⟩ ?_
 rintro j fr Hx ⟨S,h1,h2,h3,h4,rfl,rfl⟩
 have hnx:=nx_dl z (S.map (·.1)) l
 generalize hL:dl (ndM z (S.map (·.1))) l=L' at *
 cases L' with
 | nil =>
   have e3:bsS z l (dl (ndM z []) l)=S:=by
    rw[← h3]
    cases l-j<;>simp[bsS]
   rw[e3]
   cases S with
   | nil =>
     exact ⟨_,e66n n l z H h hnx,.inr ⟨rfl,rfl⟩⟩
   | cons a r =>
     have er:(r.map (·.1)).length=r.length:=by simp
     have hx:=e66o n l z H ((a::r).map (·.1)) (r.map (·.1)).length (by simp) (by simp at h1 ⊢;omega) h hnx
     exact ⟨(.ret,[(2,dW ((a::r).map (fun x:Int×Int=>x.1)))],dLw ((a::r).map (fun x:Int×Int=>x.1))::H),hx,.inr ⟨rfl,rfl⟩⟩
 | cons a0 r0 =>
   have hm:∀ x ∈ a0::r0,okE l z x:=fun x hx=>by
    rw[← hL] at hx
    obtain ⟨i,rfl,h5,_⟩:=(dl_mem _ _ _).1 hx
    exact ⟨by omega,by omega,by rw[Int.toNat_natCast];exact hb i h5⟩
   simp only[List.length_cons] at h4
   obtain ⟨i0,hi1,hi2⟩:=lsZ_in z (lstO (a0::r0)) r0.length
   have hP:pB z (bHi z (lsZ z (lstO (a0::r0)) r0.length).toNat) (lstO (a0::r0) i0)=true:=by
    have:=hm _ (lst_get (a0::r0) i0 (by simp;omega))
    unfold pB dnB
    rw[hi2]
    simp only[Bool.and_eq_true,decide_eq_true_eq]
    exact ⟨this.2.2,Int.le_refl _⟩
   have hlt:=kp_lt _ (lstO (a0::r0)) (r0.length+1) i0 (by omega) hP
   have eS:S++[(bHi z (lsZ z (lstO (a0::r0)) r0.length).toNat,lsZ z (lstO (a0::r0)) r0.length)]++bsS z (l-(j+1)) (kpt (pB z (bHi z (lsZ z (lstO (a0::r0)) r0.length).toNat)) (lstO (a0::r0)) (r0.length+1))=bsS z l (dl (ndM z []) l):=by
    rw[← h3,List.append_assoc]
    congr 1
    rw[show l-j=(l-(j+1))+1 by omega]
    rfl
   have ek:=nd_app z (S.map (·.1)) (bHi z (lsZ z (lstO (a0::r0)) r0.length).toNat) l
   rw[hL] at ek
   simp only[List.length_cons] at ek
   have em:(S++[(bHi z (lsZ z (lstO (a0::r0)) r0.length).toNat,lsZ z (lstO (a0::r0)) r0.length)]).map (·.1)=S.map (·.1)++[bHi z (lsZ z (lstO (a0::r0)) r0.length).toNat]:=by simp
   rw[ek] at hlt eS
   have R:∃ x,exec (cxD (n+5) 66 41) (part Tryz.f66 [1,1,0,0]) (fr66 l z (dW (S.map (·.1)))) (dLw (S.map (·.1))::H)=some x∧x.1=.normal∧tidy 0 x.2.1 x.2.2=(fr66 l z (dW (S.map (·.1)++[bHi z (lsZ z (lstO (a0::r0)) r0.length).toNat])),dLw (S.map (·.1)++[bHi z (lsZ z (lstO (a0::r0)) r0.length).toNat])::H):=by
    have hnx:nxS z (doB z (S.map (·.1))) l=(bHi z (lsZ z (lstO (a0::r0)) r0.length).toNat,true):=hnx
    generalize bHi z (lsZ z (lstO (a0::r0)) r0.length).toNat=q at *
    cases S with
    | nil=>exact r66n n l z H q h hnx
    | cons a r =>
      have hx:=r66o n l z H q ((a::r).map (·.1)) (r.map (·.1)).length (by simp) (by simp at h1 ⊢;omega) h hnx
      have ea:(r.map (·.1)++[q]).length=(r.map (·.1)).length+1:=by simp
      show ∃ x,exec _ _ (fr66 l z (.slc 0 0 (r.map (·.1)).length 0 1 ((r.map (·.1)).length+1) none)) ((⟨false,[((r.map (·.1)).length,.row (.M [.arr .i64 (lstO ((a::r).map (·.1))) ((r.map (·.1)).length+1)]))]⟩:Lvl)::H)=some x∧x.1=.normal∧tidy 0 x.2.1 x.2.2=(fr66 l z (.slc 0 0 (r.map (·.1)++[q]).length 0 1 ((r.map (·.1)++[q]).length+1) none),(⟨false,[((r.map (·.1)++[q]).length,.row (.M [.arr .i64 (lstO ((a::r).map (·.1)++[q])) ((r.map (·.1)++[q]).length+1)]))]⟩:Lvl)::H)
      rw[ea]
      exact hx
   obtain ⟨x,y1,y2,y3⟩:=R
   refine ⟨x,y1,.inl ⟨y2,by omega,_,?_,by omega,by rw[em];exact eS,by rw[em];omega,?_,?_⟩⟩
   · rw[List.length_append,h1];rfl
   · have:hNext (lvE::H)=0:=rfl
     rw[this,y3,em]
   · have:hNext (lvE::H)=0:=rfl
     rw[this,y3,em]
theorem c66 (h:chkO l z=0) (hb:∀ i,i<l→bLo z i≤bHi z i):cd (n+6) (.fn 66) [slA 5 l z] H=some (dA ((fwP z (dl (ndM z []) l)).map (·.1)),H):=by
 obtain ⟨y,h1,rfl⟩:=l66 n l z H h hb
 generalize (fwP z (dl (ndM z []) l)).map (·.1)=B at *
 cases B with
 | nil =>
   refine fn_all (n:=n+5) Tryz.func66 rfl rfl rfl (u66n (n+5) l z H) (il_no0 _) (blkE_ok (noBT_ok _ _) b66 (fun x h=>by rw[← Tr.ok_some h];simp only[Res.st,hints_eq];exact h1)) (noRT_ok _ _) ?_
   repeat' first | (refine Tr.all_ite (fun hc=>?_) (fun hc=>?_)<;>(try simp (disch:=omega) only[nV,nW] at hc)<;>try omega) | (refine Tr.all_req ?_ ?_;· (try simp (disch:=omega) only[nV,nW]);try omega) | (refine Tr.all_reqP ?_ ?_;· first | exact trivial | rfl | exact ⟨rfl,rfl⟩ | exact ⟨rfl,rfl,rfl⟩ | (simp (disch:=omega) only[nV,nW];done) | ((try simp (disch:=omega) only[nV,nW]);omega)) | fail
   all_goals first
    | exact Tr.all_ok ⟨rfl,rfl⟩
    | fail
 | cons a r =>
   refine fn_all (n:=n+5) Tryz.func66 rfl rfl rfl (u66o (n+5) l (r.length+1) r.length z (lstO (a::r)) H) (il_no0 _) (blkE_ok (noBT_ok _ _) b66 (fun x h=>by rw[← Tr.ok_some h];simp only[Res.st,hints_eq];exact h1)) (noRT_ok _ _) ?_
   rw[shO_zero]
   repeat' first | (refine Tr.all_ite (fun hc=>?_) (fun hc=>?_)<;>(try simp (disch:=omega) only[nV,nW] at hc)<;>try omega) | (refine Tr.all_req ?_ ?_;· (try simp (disch:=omega) only[nV,nW]);try omega) | (refine Tr.all_reqP ?_ ?_;· first | exact trivial | rfl | exact ⟨rfl,rfl⟩ | exact ⟨rfl,rfl,rfl⟩ | (simp (disch:=omega) only[nV,nW];done) | ((try simp (disch:=omega) only[nV,nW]);omega)) | fail
   all_goals first
    | exact Tr.all_ok ⟨rfl,rfl⟩
    | fail
theorem c66e (full:Bool):cd (n+1) (.fn 66) [.slcT none (.I .i64 []) 5 0 full] H=some (.nils,H):=by
 refine fn_all (n:=n) Tryz.func66 rfl rfl rfl (u66e n full H) (il_no0 _) (noBT_ok _ _) (noRT_ok _ _) ?_
 repeat' first | (refine Tr.all_ite (fun hc=>?_) (fun hc=>?_)<;>(try simp (disch:=omega) only[nV,nW] at hc)<;>try omega) | (refine Tr.all_req ?_ ?_;· (try simp (disch:=omega) only[nV,nW]);try omega) | (refine Tr.all_reqP ?_ ?_;· first | exact trivial | rfl | exact ⟨rfl,rfl⟩ | exact ⟨rfl,rfl,rfl⟩ | (simp (disch:=omega) only[nV,nW];done) | ((try simp (disch:=omega) only[nV,nW]);omega)) | fail
 all_goals first
  | exact Tr.all_ok ⟨rfl,rfl⟩
  | fail
end
end Go.Eng
end
section
namespace Go.Eng
open Go.Proofs
set_option linter.unusedVariables false
set_option linter.unusedSimpArgs false
set_option maxRecDepth 100000
noncomputable def fr65 (l:Nat) (z:Nat→Int) (j:Int):Frm:=[(0,slA 5 l z),(3,.int .i64 j)]
noncomputable def fr31 (m p:Nat) (z y:Nat→Int) (a b:Bool) (j:Int):Frm:=[(0,sl1 m z a),(1,sl1 p y b),(5,.int .i64 j)]
noncomputable def gB (b:Bool) (A:AV):List AV→Option (Prop×AV):=fun x=>some (x=[A],.bool b)
noncomputable def g63 (l m k:Nat) (y g b a:Nat→Int):List AV→Option (Prop×AV):=fun x=>some (x=[.ptrT (some 0) (.G [slA 7 l y]) 0,sl1 m g false],.tup [sl1 k b false,sl1 k a false])
theorem t65 (n l:Nat) (z:Nat→Int) (H:Heap) (j:Int):execT (cxD (n+1) 65 19) (il noCt n 1) noBT noRT (part Tryz.f65 [1,0,1,0,0]) (hints (fr65 l z j)) (lvE::H) =
 Tr.ite (ltI j (Int.ofNat l)) (Tr.req (inI j l) (Tr.req (ltN (idO 0 j 5) (mulO l 5)) (Tr.req (ltN (addO (idO 0 j 5) 1) (mulO l 5)) (Tr.req (ltN (addO (idO 0 j 5) 2) (mulO l 5)) (Tr.req (ltN (addO (idO 0 j 5) 3) (mulO l 5)) (Tr.req (ltN (addO (idO 0 j 5) 4) (mulO l 5)) (Tr.req (inI j l) (Tr.req (ltN (idO 0 j 5) (mulO l 5)) (Tr.req (ltN (addO (idO 0 j 5) 1) (mulO l 5)) (Tr.req (ltN (addO (idO 0 j 5) 2) (mulO l 5)) (Tr.req (ltN (addO (idO 0 j 5) 3) (mulO l 5)) (Tr.req (ltN (addO (idO 0 j 5) 4) (mulO l 5)) (Tr.ite (ltI (subI .i64 (z (idO 0 j 5)) (z (addO (idO 0 j 5) 2))) (subI .i64 (z (addO (idO 0 j 5) 1)) (z (addO (idO 0 j 5) 3)))) (Tr.ok (Ex.ret,[(2,AV.bool false,some 1)],lvE::H)) (Tr.ok (Ex.normal,[(0,slA 5 l z,none),(3,AV.int .i64 (addI .i64 j (Int.ofNat 1)),none)],lvE::H))))))))))))))) (Tr.ok (Ex.exit 0,[(0,slA 5 l z,none),(3,AV.int .i64 j,none),(7,AV.bool false,some 1)],lvE::H)):=by kernel_rfl
theorem u65 (n l:Nat) (z:Nat→Int) (H:Heap) (x:Bool):bodyT Tryz.prog (cd n) 100000 65 Tryz.f65 (KtB.kt 65) (il noCt n 0) (blkE noBT 0 (fr65 l z 0) (lvE::H) (.ite x (.ok (.ret,hints [(2,.bool false)],lvE::H)) (.ok (.normal,hints (fr65 l z (Int.ofNat l)++[(7,.bool false)]),lvE::H)))) noRT [(slA 5 l z,none)] H =
 Tr.reqP ([(0,slA 5 l z),(3,AV.int .i64 (Int.ofNat 0))]=[(0,slA 5 l z),(3,AV.int .i64 (Int.ofNat 0))]∧lvE::H=lvE::H) (Tr.ite x (Tr.ok ((AV.bool false,none),H)) (Tr.ok ((AV.bool true,some 1),H))):=by kernel_rfl
theorem u24x (n l:Nat) (z:Nat→Int) (H:Heap) (e:Int):bodyT Tryz.prog (cd n) 100000 24 Tryz.f24 (KtB.kt 24) (il (ctG noCt 21 (gO (slA 5 l z) (.int .i64 e))) n 0) noBT noRT [(slA 5 l z,none)] H =
 Tr.reqP (slA 5 l z=slA 5 l z) (Tr.ite (notB (eqI e (Int.ofNat 0))) (Tr.reqP (slA 5 l z=slA 5 l z) (Tr.ok ((AV.tup [AV.nils,AV.int .i64 e],none),H))) Tr.bad):=by kernel_rfl
theorem u24y (n l:Nat) (z:Nat→Int) (H:Heap):bodyT Tryz.prog (cd n) 100000 24 Tryz.f24 (KtB.kt 24) (il (ctG (ctG noCt 21 (gO (slA 5 l z) (.int .i64 0))) 65 (gB false (slA 5 l z))) n 0) noBT noRT [(slA 5 l z,none)] H =
 Tr.reqP (slA 5 l z=slA 5 l z) (Tr.ite (notB (eqI (Int.ofNat 0) (Int.ofNat 0))) (Tr.reqP (slA 5 l z=slA 5 l z) (Tr.ok ((AV.tup [AV.nils,AV.int .i64 (Int.ofNat 0)],none),H))) (Tr.reqP ([slA 5 l z]=[slA 5 l z]) (Tr.ite (notB false) (Tr.ok ((AV.tup [AV.nils,AV.int .i64 (Int.ofNat 22)],none),H)) Tr.bad))):=by kernel_rfl
theorem u24 (n l:Nat) (z:Nat→Int) (H:Heap) (e:Int) (s:Bool) (k:Nat) (b:Nat→Int):bodyT Tryz.prog (cd n) 100000 24 Tryz.f24 (KtB.kt 24) (il (ctG (ctG (ctG noCt 21 (gO (slA 5 l z) (.int .i64 e))) 65 (gB s (slA 5 l z))) 66 (gO (slA 5 l z) (sl1 k b false))) n 0) noBT noRT [(slA 5 l z,none)] H =
 Tr.reqP (slA 5 l z=slA 5 l z) (Tr.ite (notB (eqI e (Int.ofNat 0))) (Tr.reqP (slA 5 l z=slA 5 l z) (Tr.ok ((AV.tup [AV.nils,AV.int .i64 e],none),H))) (Tr.reqP ([slA 5 l z]=[slA 5 l z]) (Tr.ite (notB s) (Tr.ok ((AV.tup [AV.nils,AV.int .i64 (Int.ofNat 22)],none),H)) (Tr.reqP (slA 5 l z=slA 5 l z) (Tr.ok ((AV.tup [AV.slcT none (Row.M [Seg.arr .i64 b k]) 1 k false,AV.int .i64 (Int.ofNat 0)],none),H)))))):=by kernel_rfl
theorem u23x (n l:Nat) (z:Nat→Int) (H:Heap) (e:Int):bodyT Tryz.prog (cd n) 100000 23 Tryz.f23 (KtB.kt 23) (il (ctG noCt 62 (gO (slA 5 l z) (.tup [.nilp,.int .i64 e]))) n 0) noBT noRT [(slA 5 l z,none)] H =
 Tr.reqP (slA 5 l z=slA 5 l z) (Tr.ite (notB (eqI e (Int.ofNat 0))) (Tr.ok ((AV.tup [AV.nils,AV.int .i64 e],none),H)) Tr.bad):=by kernel_rfl
theorem u23 (n l m k:Nat) (z y g b a:Nat→Int) (H:Heap):bodyT Tryz.prog (cd n) 100000 23 Tryz.f23 (KtB.kt 23) (il (ctG (ctG (ctG noCt 62 (gO (slA 5 l z) (.tup [.ptrT (some 0) (.G [slA 7 l y]) 0,.int .i64 0]))) 64 (gO (.ptrT (some 0) (.G [slA 7 l y]) 0) (sl1 m g false))) 63 (g63 l m k y g b a)) n 0) noBT noRT [(slA 5 l z,none)] H =
 (fun (Z0:List AV)=>Tr.reqP (slA 5 l z=slA 5 l z) (Tr.ite (notB (eqI (Int.ofNat 0) (Int.ofNat 0))) (Tr.ok ((AV.tup [AV.nils,AV.int .i64 (Int.ofNat 0)],none),H)) (Tr.reqP (AV.ptrT (some 0) (Row.G [slA 7 l y]) 0=AV.ptrT (some 0) (Row.G [slA 7 l y]) 0) (Tr.reqP (Z0=Z0) (Tr.req (mkO (Int.ofNat k) (Int.ofNat k) 8) (Tr.req (leN (minN k (toN (Int.ofNat k))) k) (Tr.req (leN (addO 0 (minN k (toN (Int.ofNat k)))) k) (Tr.req (eqN 0 0) (Tr.req (inO 0 (minN k (toN (Int.ofNat k))) 0 (toN (Int.ofNat k))) (Tr.req (eqN 0 0) (Tr.req (inO 0 (toN (Int.ofNat k)) 0 (toN (Int.ofNat k))) (Tr.ok ((AV.tup [AV.slcT none (Row.M [Seg.arr .i64 (shO (copO (fun x=>Int.ofNat 0) 0 b (minN k (toN (Int.ofNat k)))) 0) (toN (Int.ofNat k))]) 1 (toN (Int.ofNat k)) (eqN (toN (Int.ofNat k)) (toN (Int.ofNat k))),AV.int .i64 (Int.ofNat 0)],none),H))))))))))))) [AV.ptrT (some 0) (Row.G [slA 7 l y]) 0,AV.slcT none (Row.M [Seg.arr .i64 g m]) 1 m false]:=by kernel_rfl
theorem t31 (n:Nat) (H:Heap) (m p:Nat) (z y:Nat→Int) (a b:Bool) (j:Int):execT (cxD n 31 26) (il noCt n 0) noBT noRT (part Tryz.f31 [1,1,0,1,0,0]) (hints (fr31 m p z y a b j)) (lvE::H) =
 Tr.ite (ltI j (Int.ofNat m)) (Tr.req (inI j m) (Tr.req (ltN (idO 0 j 1) m) (Tr.req (inI j p) (Tr.req (ltN (idO 0 j 1) p) (Tr.ite (notB (eqI (z (idO 0 j 1)) (y (idO 0 j 1)))) (Tr.ok (Ex.ret,[(4,AV.bool false,some 1)],lvE::H)) (Tr.ok (Ex.normal,[(0,AV.slcT none (Row.M [Seg.arr .i64 z m]) 1 m a,none),(1,AV.slcT none (Row.M [Seg.arr .i64 y p]) 1 p b,none),(5,AV.int .i64 (addI .i64 j (Int.ofNat 1)),none)],lvE::H))))))) (Tr.ok (Ex.exit 0,[(0,AV.slcT none (Row.M [Seg.arr .i64 z m]) 1 m a,none),(1,AV.slcT none (Row.M [Seg.arr .i64 y p]) 1 p b,none),(5,AV.int .i64 j,none),(14,AV.bool false,some 1)],lvE::H)):=by kernel_rfl
theorem u31 (n:Nat) (H:Heap) (m p:Nat) (z y:Nat→Int) (a b:Bool):bodyT Tryz.prog (cd n) 100000 31 Tryz.f31 (KtB.kt 31) (il noCt n 0) (blkE noBT 0 (fr31 m p z y a b 0) (lvE::H) (.ok (.normal,hints (fr31 m p z y a b (Int.ofNat m)++[(14,.bool false)]),lvE::H))) noRT [(sl1 m z a,none),(sl1 p y b,none)] H =
 (fun (Z0:Frm)=>Tr.ite (notB (eqI (Int.ofNat m) (Int.ofNat p))) (Tr.ok ((AV.bool false,some 1),H)) (Tr.reqP (Z0=Z0∧lvE::H=lvE::H) (Tr.ok ((AV.bool true,some 1),H)))) [(0,AV.slcT none (Row.M [Seg.arr .i64 z m]) 1 m a),(1,AV.slcT none (Row.M [Seg.arr .i64 y p]) 1 p b),(5,AV.int .i64 (Int.ofNat 0))]:=by kernel_rfl
theorem u31n (n:Nat) (H:Heap):bodyT Tryz.prog (cd n) 100000 31 Tryz.f31 (KtB.kt 31) (il noCt n 0) noBT noRT [(.nils,none),(.nils,none)] H =
 Tr.ok ((AV.bool true,some 1),H):=by kernel_rfl
theorem b65:∀ b,(0,b) ∈ blocksOf (bodyOf Tryz.f65)→b=.loop (part Tryz.f65 [1,0,1,0,0]):=by
 have:((blocksOf (bodyOf Tryz.f65)).filter fun x=>Nat.beq x.1 0)=[(0,.loop (part Tryz.f65 [1,0,1,0,0]))]:=by kernel_rfl
 intro b hb
 have hm:(0,b) ∈ ((blocksOf (bodyOf Tryz.f65)).filter fun x=>Nat.beq x.1 0):=List.mem_filter.2 ⟨hb,rfl⟩
 rw[this] at hm;simpa using hm
theorem b31:∀ b,(0,b) ∈ blocksOf (bodyOf Tryz.f31)→b=.loop (part Tryz.f31 [1,1,0,1,0,0]):=by
 have:((blocksOf (bodyOf Tryz.f31)).filter fun x=>Nat.beq x.1 0)=[(0,.loop (part Tryz.f31 [1,1,0,1,0,0]))]:=by kernel_rfl
 intro b hb
 have hm:(0,b) ∈ ((blocksOf (bodyOf Tryz.f31)).filter fun x=>Nat.beq x.1 0):=List.mem_filter.2 ⟨hb,rfl⟩
 rw[this] at hm;simpa using hm
theorem ctV2 {f k:Nat} {t:Ctr} {A:AV} {b:Bool} (ht:t.Ok (cd k)) (h:∀ H,cd k (.fn f) [A] H=some (.bool b,H)):(ctG t f (gB b A)).Ok (cd k):=by
 refine ctG_ok ht (fun args p v hg hp H=>?_)
 unfold gB at hg
 simp only[nP] at hg
 obtain ⟨rfl,rfl⟩:=hg
 rw[hp];exact h H
def noB (z:Nat→Int) (j:Nat):Bool:=decide (bHi z j<bLo z j)
section
variable (n l:Nat) (z:Nat→Int) (H:Heap)
theorem l65 (h:chkO l z=0):exec (cxD (n+1) 65 19) (.block 0 (.loop (part Tryz.f65 [1,0,1,0,0]))) (fr65 l z 0) (lvE::H)=some (cond (exN (noB z) l) (.ret,[(2,.bool false)],lvE::H) (.normal,fr65 l z (Int.ofNat l)++[(7,.bool false)],lvE::H)):=by
 obtain ⟨hl,hb⟩:=chk_odd h
 refine findX 0 (fun j=>fr65 l z (j:Int)) (fun _=>lvE::H) l (noB z) (fun j=>([(2,.bool false)],lvE::H)) (fr65 l z (Int.ofNat l)++[(7,.bool false)],lvE::H) (by omega) (fun j hj=>?_) ?_
 · have b:=hb j hj
   have ej:addI .i64 (j:Int) (Int.ofNat 1)=((j+1:Nat):Int):=by rw[addI_eq,show Int.ofNat 1=1 from rfl];exact wr_64 (by omega) (by omega)
   have e5:idO 0 (j:Int) 5=j*5:=by rw[idO_eq];omega
   have s1:subI .i64 (z (j*5+1)) (z (j*5+3))=bLo z j:=by rw[subI_eq];exact wr_64 (by omega) (by omega)
   have s2:subI .i64 (z (j*5)) (z (j*5+2))=bHi z j:=by rw[subI_eq];exact wr_64 (by omega) (by omega)
   have hn:noB z j=decide (bHi z j<bLo z j):=rfl
   refine ex_all (t65 n l z H (j:Int)) (il_no n 1) (noBT_ok _ _) (noRT_ok _ _) ?_
   simp only[addO_eq]
   rw[e5,ej,s1,s2]
   generalize noB z j=nb at *
   clear s1 s2
   generalize bLo z j=lo at *
   generalize bHi z j=hi at *
   by_cases h1:hi<lo
   · rw[decide_eq_true h1] at hn
     subst hn
     simp only[if_true]
     repeat' first | (refine Tr.all_ite (fun hc=>?_) (fun hc=>?_)<;>(try simp (disch:=omega) only[nV,nW] at hc)<;>try omega) | (refine Tr.all_req ?_ ?_;· (try simp (disch:=omega) only[nV,nW]);try omega) | (refine Tr.all_reqP ?_ ?_;· first | exact trivial | rfl | exact ⟨rfl,rfl⟩ | exact ⟨rfl,rfl,rfl⟩ | (simp (disch:=omega) only[nV,nW];done) | ((try simp (disch:=omega) only[nV,nW]);omega)) | fail
     all_goals first
      | exact Tr.all_ok rfl
      | fail
   · rw[decide_eq_false h1] at hn
     subst hn
     simp only[Bool.false_eq_true,if_false]
     repeat' first | (refine Tr.all_ite (fun hc=>?_) (fun hc=>?_)<;>(try simp (disch:=omega) only[nV,nW] at hc)<;>try omega) | (refine Tr.all_req ?_ ?_;· (try simp (disch:=omega) only[nV,nW]);try omega) | (refine Tr.all_reqP ?_ ?_;· first | exact trivial | rfl | exact ⟨rfl,rfl⟩ | exact ⟨rfl,rfl,rfl⟩ | (simp (disch:=omega) only[nV,nW];done) | ((try simp (disch:=omega) only[nV,nW]);omega)) | fail
     all_goals first
      | exact Tr.all_ok ⟨rfl,rfl⟩
      | fail
 · obtain ⟨x,h1,rfl⟩:=ex_all (Q:=fun x=>x=(.exit 0,fr65 l z (Int.ofNat l)++[(7,.bool false)],lvE::H)) (t65 n l z H (Int.ofNat l)) (il_no n 1) (noBT_ok _ _) (noRT_ok _ _) (by
    refine Tr.all_ite (fun hc=>?_) (fun hc=>Tr.all_ok rfl)
    simp (disch:=omega) only[nV,nW] at hc;omega)
   exact h1
theorem c65 (h:chkO l z=0):cd (n+2) (.fn 65) [slA 5 l z] H=some (.bool (!exN (noB z) l),H):=by
 have hx:=l65 n l z H h
 refine fn_all (n:=n+1) Tryz.func65 rfl rfl rfl (u65 (n+1) l z H (exN (noB z) l)) (il_no0 _) (blkE_ok (noBT_ok _ _) b65 (fun x h1=>by
  refine Eq.trans hx ?_
  rcases Tr.ite_some h1 with ⟨hc,h1⟩ | ⟨hc,h1⟩
  · rw[hc,← Tr.ok_some h1];rfl
  · rw[hc,← Tr.ok_some h1];simp only[cond_false,Res.st,hints_eq])) (noRT_ok _ _) ?_
 refine Tr.all_reqP ⟨rfl,rfl⟩ (Tr.all_ite (fun hc=>Tr.all_ok ⟨?_,rfl⟩) (fun hc=>Tr.all_ok ⟨?_,rfl⟩))
 · rw[hc];rfl
 · rw[hc];rfl
theorem no_all:exN (noB z) l=false↔∀ i,i<l→bLo z i≤bHi z i:=by
 constructor
 · intro h i hi
   apply Int.not_lt.1
   intro hc
   have:exN (noB z) l=true:=(exN_iff _ _).2 ⟨i,hi,by unfold noB;rw[decide_eq_true hc]⟩
   rw[h] at this;cases this
 · intro h
   cases hx:exN (noB z) l with
   | false=>rfl
   | true =>
     obtain ⟨i,h1,h2⟩:=(exN_iff _ _).1 hx
     unfold noB at h2
     have:=h i h1
     rw[decide_eq_true_eq] at h2
     omega
theorem dl_lt {m:Nat→Int} {j i:Nat} (hi:i<j) (h:m i≠1):(dl m j).length<j:=by
 induction j with
 | zero=>omega
 | succ j ih =>
   show (if m j=1 then dl m j++[(j:Int)] else dl m j).length < _
   have:=dl_len m j
   by_cases e:i<j
   · have:=ih e
     split
     · rw[List.length_append];simp only[List.length_cons,List.length_nil];omega
     · omega
   · have:i=j:=by omega
     subst this
     rw[if_neg h];omega
theorem who_eq:whoE l z=if chkO l z≠0 then chkO l z else if exN (noB z) l=true then 22 else 0:=by
 unfold whoE
 by_cases h:chkO l z≠0
 · rw[if_pos h,if_pos h]
 · rw[if_neg h,if_neg h]
   by_cases h2:exN (noB z) l=true
   · rw[if_pos h2]
     obtain ⟨i,h3,h4⟩:=(exN_iff _ _).1 h2
     unfold noB at h4
     rw[decide_eq_true_eq] at h4
     rw[if_pos (dl_lt h3 (by unfold smM;rw[if_neg (by omega)];decide))]
   · have h3:=(no_all l z).1 (by simpa using h2)
     rw[if_neg h2,if_neg]
     rw[dl_all (fun i hi=>by unfold smM;rw[if_pos (h3 i hi)])]
     omega
theorem who_ok (h:whoE l z=0):chkO l z=0∧∀ i,i<l→bLo z i≤bHi z i:=by
 rw[who_eq] at h
 by_cases h1:chkO l z≠0
 · rw[if_pos h1] at h;exact absurd h h1
 · rw[if_neg h1] at h
   refine ⟨by simpa using h1,(no_all l z).1 ?_⟩
   cases h2:exN (noB z) l with
   | false=>rfl
   | true=>rw[h2,if_pos rfl] at h;cases h
theorem sm_nd (h:whoE l z=0):dl (smM z) l=dl (ndM z []) l:=by
 obtain ⟨_,h2⟩:=who_ok l z h
 refine dl_congr (fun i hi=>?_)
 unfold smM ndM
 rw[if_pos (h2 i hi),nd_nil];simp
noncomputable def fwB (l:Nat) (z:Nat→Int):List Int:=(fwP z (dl (ndM z []) l)).map (·.1)
noncomputable def fwA (l:Nat) (z:Nat→Int):List Int:=(fwP z (dl (ndM z []) l)).map (·.2)
noncomputable def bsRV (l:Nat) (z:Nat→Int):AV:=if whoE l z=0 then .tup [dA (fwB l z),.int .i64 0] else .tup [.nils,.int .i64 (whoE l z)]
theorem c24:cd (n+8) (.fn 24) [slA 5 l z] H=some (bsRV l z,H):=by
 have hc:∀ k H,cd (n+7+k) (.fn 21) [slA 5 l z] H=some (.int .i64 (chkO l z),H):=fun k H=>by rw[show n+7+k=n+4+k+3 by omega];exact c21 _ l z H
 unfold bsRV
 have hw:=who_eq l z
 by_cases h:chkO l z=0
 · have h65:∀ k H,cd (n+7+k) (.fn 65) [slA 5 l z] H=some (.bool (!exN (noB z) l),H):=fun k H=>by rw[show n+7+k=n+5+k+2 by omega];exact c65 _ l z H h
   rw[h] at hc
   rw[if_neg (fun x=>x h)] at hw
   cases hs:exN (noB z) l with
   | true =>
     rw[hs] at hw h65
     rw[if_pos rfl] at hw
     rw[hw,if_neg (by decide)]
     refine fn_all (n:=n+7) Tryz.func24 rfl rfl rfl (u24y (n+7) l z H) (il_ok _ (n+7) 0 (fun k=>ctV2 (ctV1 (noCt_ok _) (hc k)) (h65 k))) (noBT_ok _ _) (noRT_ok _ _) ?_
     repeat' first | (refine Tr.all_ite (fun hc=>?_) (fun hc=>?_)<;>(try simp (disch:=omega) only[nV,nW] at hc)<;>try omega) | (refine Tr.all_req ?_ ?_;· (try simp (disch:=omega) only[nV,nW]);try omega) | (refine Tr.all_reqP ?_ ?_;· first | exact trivial | rfl | exact ⟨rfl,rfl⟩ | exact ⟨rfl,rfl,rfl⟩ | (simp (disch:=omega) only[nV,nW];done) | ((try simp (disch:=omega) only[nV,nW]);omega)) | fail
     all_goals first
      | exact Tr.all_ok ⟨rfl,rfl⟩
      | fail
   | false =>
     rw[hs] at hw h65
     rw[if_neg (by decide)] at hw
     rw[hw,if_pos rfl]
     have h66:∀ k H,cd (n+7+k) (.fn 66) [slA 5 l z] H=some (dA (fwB l z),H):=fun k H=>by rw[show n+7+k=n+1+k+6 by omega];exact c66 _ l z H h ((no_all l z).1 hs)
     have hne:∃ a r,fwB l z=a::r:=by
      obtain ⟨hl,_⟩:=chk_odd h
      have hN:(dl (ndM z []) l).length=l:=dl_all (fun i _=>by unfold ndM;rw[nd_nil];rfl)
      unfold fwB fwP
      cases e:dl (ndM z []) l with
      | nil=>rw[e] at hN;simp at hN;omega
      | cons a r=>exact ⟨_,_,rfl⟩
     obtain ⟨a,r,e⟩:=hne
     rw[e] at h66 ⊢
     refine fn_all (n:=n+7) Tryz.func24 rfl rfl rfl (u24 (n+7) l z H 0 true (r.length+1) (lstO (a::r))) (il_ok _ (n+7) 0 (fun k=>ctV1 (ctV2 (ctV1 (noCt_ok _) (hc k)) (h65 k)) (h66 k))) (noBT_ok _ _) (noRT_ok _ _) ?_
     repeat' first | (refine Tr.all_ite (fun hc=>?_) (fun hc=>?_)<;>(try simp (disch:=omega) only[nV,nW] at hc)<;>try omega) | (refine Tr.all_req ?_ ?_;· (try simp (disch:=omega) only[nV,nW]);try omega) | (refine Tr.all_reqP ?_ ?_;· first | exact trivial | rfl | exact ⟨rfl,rfl⟩ | exact ⟨rfl,rfl,rfl⟩ | (simp (disch:=omega) only[nV,nW];done) | ((try simp (disch:=omega) only[nV,nW]);omega)) | fail
     all_goals first
      | exact Tr.all_ok ⟨rfl,rfl⟩
      | fail
 · rw[if_pos h] at hw
   rw[hw,if_neg h]
   refine fn_all (n:=n+7) Tryz.func24 rfl rfl rfl (u24x (n+7) l z H (chkO l z)) (il_ok _ (n+7) 0 (fun k=>ctV1 (noCt_ok _) (hc k))) (noBT_ok _ _) (noRT_ok _ _) ?_
   repeat' first | (refine Tr.all_ite (fun hc=>?_) (fun hc=>?_)<;>(try simp (disch:=omega) only[nV,nW] at hc)<;>try omega) | (refine Tr.all_req ?_ ?_;· (try simp (disch:=omega) only[nV,nW]);try omega) | (refine Tr.all_reqP ?_ ?_;· first | exact trivial | rfl | exact ⟨rfl,rfl⟩ | exact ⟨rfl,rfl,rfl⟩ | (simp (disch:=omega) only[nV,nW];done) | ((try simp (disch:=omega) only[nV,nW]);omega)) | fail
   all_goals first
    | exact Tr.all_ok ⟨rfl,rfl⟩
    | fail
end
end Go.Eng
end
