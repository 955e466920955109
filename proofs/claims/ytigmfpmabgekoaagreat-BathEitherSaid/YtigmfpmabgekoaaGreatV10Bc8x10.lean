/- Bath: Costs of the program. -/
import Derived.Test.YtigmfpmabgekoaaGreatV10Bc2x6
import Derived.Test.YtigmfpmabgekoaaGreatV10Ba4x6
section
namespace Go.Eng
open Go.Proofs
set_option linter.unusedVariables false
set_option linter.unusedSimpArgs false
set_option maxRecDepth 100000
noncomputable def alL (l:Nat) (z:Nat→Int):List Int:=dl (ndM z []) l
noncomputable def csM (l:Nat) (z:Nat→Int) (j:Nat):Int:=if (fwP z (kpt (eqP j) (lstO (alL l z)) l)).length<(fwP z (alL l z)).length then 1 else 0
noncomputable def csPV (l:Nat) (z:Nat→Int):AV:=if whoE l z=0 then .tup [dA (dl (csM l z) l),.int .i64 0] else .tup [.nils,.int .i64 (whoE l z)]
section
variable (n l:Nat) (z:Nat→Int) (H:Heap)
theorem al_len:(alL l z).length=l:=dl_all (fun i _=>by unfold ndM;rw[nd_nil];rfl)
theorem al_in (j:Nat) (h:j<l):(j:Int) ∈ alL l z:=(dl_mem _ _ _).2 ⟨j,rfl,h,by unfold ndM;rw[nd_nil];rfl⟩
theorem al_ok (h:whoE l z=0):∀ j,j<l→okE l z (lstO (alL l z) j):=fun j hj=>by
 obtain ⟨_,h2⟩:=who_ok l z h
 have hx:=lst_get (alL l z) j (by rw[al_len];exact hj)
 obtain ⟨i,e,h5,_⟩:=(dl_mem _ _ _).1 hx
 rw[e]
 exact ⟨by omega,by omega,by rw[Int.toNat_natCast];exact h2 i h5⟩
theorem rest_ne (j:Nat) (h1:1≤j) (h2:j<l):kpt (eqP j) (lstO (alL l z)) l≠[]:=fun e=>by
 have h0:=al_in l z 0 (by omega)
 obtain ⟨i,hi,h3⟩:=List.getElem_of_mem h0
 rw[al_len] at hi
 have h4:lstO (alL l z) i=0:=by rw[lst_at,List.getD_eq_getElem?_getD,List.getElem?_eq_getElem (by rw[al_len];exact hi)];simpa using h3
 have:=(kp_mem (eqP j) (lstO (alL l z)) l 0).2 ⟨i,hi,h4,by unfold eqP;rw[decide_eq_false];omega⟩
 rw[e] at this;cases this
theorem l25 (kb:Nat) (hb:Nat→Int) (hk:kb=(fwP z (alL l z)).length) (h:whoE l z=0):exec (cxD (n+5) 25 56) (.block 0 (.loop (part Tryz.f25 [1,1,1,1,1,1,0,1,0,0]))) (fr25 l (oY z l) (sl1 l (lstO (alL l z)) false) (sl1 kb hb false) .nils 0) (lvE::H)=some (.normal,fr25 l (oY z l) (sl1 l (lstO (alL l z)) false) (sl1 kb hb false) (dW (dl (csM l z) l)) (Int.ofNat l)++[(33,.bool false)],dLw (dl (csM l z) l)::H):=by
 obtain ⟨h1,h2⟩:=who_ok l z h
 obtain ⟨hl,_⟩:=chk_odd h1
 have hok:=al_ok l z h
 refine forX 0 (fun j=>fr25 l (oY z l) (sl1 l (lstO (alL l z)) false) (sl1 kb hb false) (dW (dl (csM l z) j)) (j:Int)) (fun j=>dLw (dl (csM l z) j)::H) l (fr25 l (oY z l) (sl1 l (lstO (alL l z)) false) (sl1 kb hb false) (dW (dl (csM l z) l)) (Int.ofNat l)++[(33,.bool false)],dLw (dl (csM l z) l)::H) (by omega) (fun j hj=>?_) ?_
 · have hd:dl (csM l z) (j+1)=if csM l z j=1 then dl (csM l z) j++[(j:Int)] else dl (csM l z) j:=rfl
   have hc:(csM l z j=1)↔(fwP z (kpt (eqP j) (lstO (alL l z)) l)).length<kb:=by
    rw[hk];unfold csM;split<;>simp_all
   have hlen:=dl_len (csM l z) j
   cases e:dl (csM l z) j with
   | nil =>
     rw[e] at hd
     have R:∃ x,exec (cxD (n+5) 25 56) (part Tryz.f25 [1,1,1,1,1,1,0,1,0,0]) (fr25 l (oY z l) (sl1 l (lstO (alL l z)) false) (sl1 kb hb false) .nils (j:Int)) (lvE::H)=some x∧x.1=.normal∧tidy 0 x.2.1 x.2.2=(fr25 l (oY z l) (sl1 l (lstO (alL l z)) false) (sl1 kb hb false) (dW (if (fwP z (kpt (eqP j) (lstO (alL l z)) l)).length<kb then [(j:Int)] else [])) ((j+1:Nat):Int),dLw (if (fwP z (kpt (eqP j) (lstO (alL l z)) l)).length<kb then [(j:Int)] else [])::H):=by
      by_cases hr:kpt (eqP j) (lstO (alL l z)) l=[]
      · exact r25z n l z l (lstO (alL l z)) H j kb hb (by omega) (by omega) hok hj hr
      · exact r25a n l z l (lstO (alL l z)) H j kb hb (by omega) (by omega) hok hj hr
     obtain ⟨x,y1,y2,y3⟩:=R
     refine ⟨x,y1,y2,y3.trans ?_⟩
     by_cases hx:(fwP z (kpt (eqP j) (lstO (alL l z)) l)).length<kb
     · rw[if_pos hx,hd,if_pos (hc.2 hx)];rfl
     · rw[if_neg hx,hd,if_neg (fun y=>hx (hc.1 y))]
   | cons a r =>
     rw[e] at hd hlen
     simp only[List.length_cons] at hlen
     obtain ⟨x,y1,y2,y3⟩:=r25b n l z l (lstO (alL l z)) H j kb hb (by omega) (by omega) hok hj (rest_ne l z j (by omega) hj) r.length (by omega) (a::r) rfl
     refine ⟨x,y1,y2,y3.trans ?_⟩
     have ea:(r++[(j:Int)]).length=r.length+1:=by simp
     by_cases hx:(fwP z (kpt (eqP j) (lstO (alL l z)) l)).length<kb
     · rw[if_pos hx,if_pos hx,hd,if_pos (hc.2 hx)]
       show _=(fr25 l (oY z l) (sl1 l (lstO (alL l z)) false) (sl1 kb hb false) (.slc 0 0 (r++[(j:Int)]).length 0 1 ((r++[(j:Int)]).length+1) none) ((j+1:Nat):Int),(⟨false,[((r++[(j:Int)]).length,.row (.M [.arr .i64 (lstO (a::r++[(j:Int)])) ((r++[(j:Int)]).length+1)]))]⟩:Lvl)::H)
       rw[ea];rfl
     · rw[if_neg hx,if_neg hx,hd,if_neg (fun y=>hx (hc.1 y))];rfl
 · cases e:dl (csM l z) l with
   | nil =>
     obtain ⟨x,h1,rfl⟩:=ex_all (Q:=fun x=>x=(.exit 0,fr25 l (oY z l) (sl1 l (lstO (alL l z)) false) (sl1 kb hb false) .nils (Int.ofNat l)++[(33,.bool false)],lvE::H)) (t25x (n+5) l l kb (oY z l) (lstO (alL l z)) hb H (Int.ofNat l)) (il_no0 _) (noBT_ok _ _) (noRT_ok _ _) (by
      refine Tr.all_ite (fun hc=>?_) (fun hc=>Tr.all_ok rfl)
      simp (disch:=omega) only[nV,nW] at hc;omega)
     exact h1
   | cons a r =>
     obtain ⟨x,h1,rfl⟩:=ex_all (Q:=fun x=>x=(.exit 0,fr25 l (oY z l) (sl1 l (lstO (alL l z)) false) (sl1 kb hb false) (.slc 0 0 r.length 0 1 (r.length+1) none) (Int.ofNat l)++[(33,.bool false)],lvO r.length (r.length+1) (lstO (a::r))::H)) (t25y (n+5) l l kb r.length (r.length+1) (oY z l) (lstO (alL l z)) hb (lstO (a::r)) H (Int.ofNat l)) (il_no0 _) (noBT_ok _ _) (noRT_ok _ _) (by
      refine Tr.all_ite (fun hc=>?_) (fun hc=>Tr.all_ok rfl)
      simp (disch:=omega) only[nV,nW] at hc;omega)
     exact h1
theorem c25:cd (n+13) (.fn 25) [slA 5 l z] H=some (csPV l z,H):=by
 have hc:∀ k H,cd (n+12+k) (.fn 62) [slA 5 l z] H=some (whoV l z,H):=fun k H=>by rw[show n+12+k=n+k+12 by omega];exact c62 _ l z H
 unfold csPV
 by_cases h:whoE l z=0
 · rw [if_pos h]
   rw[whoV_ok l z h] at hc
   obtain ⟨h1,h2⟩:=who_ok l z h
   obtain ⟨hl,_⟩:=chk_odd h1
   have h63:=fun k H=>c63w (n+7+k) l z H h
   have hd:∀ k H,cd (n+12+k) (.fn 64) [.ptrT (some 0) (.G [slA 7 l (oY z l)]) 0] H=some (dA (dl (smM z) l),H):=fun k H=>by rw[show n+12+k=n+8+k+4 by omega];exact c64 _ l z H h1
   have hlen:=fw_len l z
   obtain ⟨p,q,e⟩:=fw_cons l z h
   have hA:dA (dl (smM z) l)=sl1 l (lstO (alL l z)) false:=by
    rw[sm_nd l z h]
    have:=dA_sl (dl (ndM z []) l) (l-1) (by rw[show (dl (ndM z []) l).length=l from al_len l z];omega)
    rw[this,show l-1+1=l by omega];rfl
   have hk:(fwP z (alL l z)).length=q.length+1:=by unfold alL;rw[e];rfl
   have hB:dA (fwB l z)=sl1 (q.length+1) (lstO (fwB l z)) false:=dA_sl _ _ (by unfold fwB;rw[List.length_map];exact hk)
   have hA2:dA (fwA l z)=sl1 (q.length+1) (lstO (fwA l z)) false:=dA_sl _ _ (by unfold fwA;rw[List.length_map];exact hk)
   rw[hA,hB,hA2] at h63
   rw[hA] at hd
   have hx:=l25 (n+7) l z H (q.length+1) (lstO (fwB l z)) hk.symm h
   cases e2:dl (csM l z) l with
   | nil =>
     rw[e2] at hx
     refine fn_all (n:=n+12) Tryz.func25 rfl rfl rfl (u25n (n+12) l l (q.length+1) z (oY z l) (lstO (alL l z)) (lstO (fwB l z)) (lstO (fwA l z)) H) (il_ok _ (n+12) 0 (fun k=>ct63_ok (ctV1 (ctV1 (noCt_ok _) (hc k)) (hd k)) (fun H=>by rw[show n+12+k=n+7+k+5 by omega];exact h63 k H))) (blkE_ok (noBT_ok _ _) b25 (fun x hy=>by rw[← Tr.ok_some hy];simp only[Res.st,hints_eq];exact hx)) (noRT_ok _ _) ?_
     repeat' first | (refine Tr.all_ite (fun hc=>?_) (fun hc=>?_)<;>(try simp (disch:=omega) only[nV,nW] at hc)<;>try omega) | (refine Tr.all_req ?_ ?_;· (try simp (disch:=omega) only[nV,nW]);try omega) | (refine Tr.all_reqP ?_ ?_;· first | exact trivial | rfl | exact ⟨rfl,rfl⟩ | exact ⟨rfl,rfl,rfl⟩ | (simp (disch:=omega) only[nV,nW];done) | ((try simp (disch:=omega) only[nV,nW]);omega)) | fail
     all_goals first
      | exact Tr.all_ok ⟨rfl,rfl⟩
      | fail
   | cons a r =>
     rw[e2] at hx
     refine fn_all (n:=n+12) Tryz.func25 rfl rfl rfl (u25o (n+12) l l (q.length+1) r.length (r.length+1) z (oY z l) (lstO (alL l z)) (lstO (fwB l z)) (lstO (fwA l z)) (lstO (a::r)) H) (il_ok _ (n+12) 0 (fun k=>ct63_ok (ctV1 (ctV1 (noCt_ok _) (hc k)) (hd k)) (fun H=>by rw[show n+12+k=n+7+k+5 by omega];exact h63 k H))) (blkE_ok (noBT_ok _ _) b25 (fun x hy=>by rw[← Tr.ok_some hy];simp only[Res.st,hints_eq];exact hx)) (noRT_ok _ _) ?_
     rw[shO_zero]
     repeat' first | (refine Tr.all_ite (fun hc=>?_) (fun hc=>?_)<;>(try simp (disch:=omega) only[nV,nW] at hc)<;>try omega) | (refine Tr.all_req ?_ ?_;· (try simp (disch:=omega) only[nV,nW]);try omega) | (refine Tr.all_reqP ?_ ?_;· first | exact trivial | rfl | exact ⟨rfl,rfl⟩ | exact ⟨rfl,rfl,rfl⟩ | (simp (disch:=omega) only[nV,nW];done) | ((try simp (disch:=omega) only[nV,nW]);omega)) | fail
     all_goals first
      | exact Tr.all_ok ⟨rfl,rfl⟩
      | fail
 · rw[if_neg h]
   have hv:whoV l z=.tup [.nilp,.int .i64 (whoE l z)]:=by unfold whoV;rw[if_neg h]
   rw[hv] at hc
   refine fn_all (n:=n+12) Tryz.func25 rfl rfl rfl (u25x (n+12) l z H (whoE l z)) (il_ok _ (n+12) 0 (fun k=>ctV1 (noCt_ok _) (hc k))) (stopB_ok (noBT_ok _ _) 0) (noRT_ok _ _) ?_
   repeat' first | (refine Tr.all_ite (fun hc=>?_) (fun hc=>?_)<;>(try simp (disch:=omega) only[nV,nW] at hc)<;>try omega) | (refine Tr.all_req ?_ ?_;· (try simp (disch:=omega) only[nV,nW]);try omega) | (refine Tr.all_reqP ?_ ?_;· first | exact trivial | rfl | exact ⟨rfl,rfl⟩ | exact ⟨rfl,rfl,rfl⟩ | (simp (disch:=omega) only[nV,nW];done) | ((try simp (disch:=omega) only[nV,nW]);omega)) | fail
   all_goals first
    | exact Tr.all_ok ⟨rfl,rfl⟩
    | fail
end
end Go.Eng
end
section
namespace Go.Eng
open Go.Proofs
set_option linter.unusedVariables false
set_option linter.unusedSimpArgs false
set_option maxRecDepth 100000
theorem u47 (n l:Nat) (z:Nat→Int) (H:Heap) (i:Int):bodyT Tryz.prog (cd n) 100000 47 Tryz.f47 (KtB.kt 47) (il noCt n 0) noBT noRT [(slA 5 l z,none),(.int .i64 i,none)] H =
 Tr.req (bndI i l) (Tr.req (leN (addO (mulO 0 5) (mulO (toN i) 5)) (mulO l 5)) (Tr.ite (eqN (toN i) 0) (Tr.req (bndI (addI .i64 i (Int.ofNat 1)) l) (Tr.req (leN (addO (mulO (toN (addI .i64 i (Int.ofNat 1))) 5) (mulO (subO l (toN (addI .i64 i (Int.ofNat 1)))) 5)) (mulO l 5)) (Tr.ite (eqN (subO l (toN (addI .i64 i (Int.ofNat 1)))) 0) (Tr.req (eqN 0 0) (Tr.ok ((AV.slcT none (Row.I .i64 []) 5 0 (eqN 0 0),none),H))) (Tr.req (roomO 0 (subO l (toN (addI .i64 i (Int.ofNat 1)))) 40) (Tr.req (leN (subO l (toN (addI .i64 i (Int.ofNat 1)))) (subO l (toN (addI .i64 i (Int.ofNat 1))))) (Tr.req (leN (addO (mulO 0 5) (mulO (subO l (toN (addI .i64 i (Int.ofNat 1)))) 5)) (mulO (subO l (toN (addI .i64 i (Int.ofNat 1)))) 5)) (Tr.ite (ltN 0 (addO 0 (subO l (toN (addI .i64 i (Int.ofNat 1)))))) (Tr.req (eqN 0 0) (Tr.req (leN 0 0) (Tr.req (eqN 0 0) (Tr.req (inO 0 (mulO (addO 0 (subO l (toN (addI .i64 i (Int.ofNat 1))))) 5) 0 (addO 0 (mulO (subO l (toN (addI .i64 i (Int.ofNat 1)))) 5))) (Tr.ok ((AV.slcT none (Row.M [Seg.arr .i64 (shO (appO (lstO []) 0 (shO z (mulO (toN (addI .i64 i (Int.ofNat 1))) 5))) 0) (mulO (addO 0 (subO l (toN (addI .i64 i (Int.ofNat 1))))) 5)]) 5 (addO 0 (subO l (toN (addI .i64 i (Int.ofNat 1))))) false,none),H)))))) (Tr.req (eqN 0 0) Tr.bad)))))))) (Tr.req (roomO 0 (toN i) 40) (Tr.req (leN (toN i) (toN i)) (Tr.req (leN (addO (mulO 0 5) (mulO (toN i) 5)) (mulO (toN i) 5)) (Tr.ite (ltN 0 (addO 0 (toN i))) (Tr.req (eqN 0 0) (Tr.req (leN 0 0) (Tr.req (bndI (addI .i64 i (Int.ofNat 1)) l) (Tr.req (leN (addO (mulO (toN (addI .i64 i (Int.ofNat 1))) 5) (mulO (subO l (toN (addI .i64 i (Int.ofNat 1)))) 5)) (mulO l 5)) (Tr.ite (eqN (subO l (toN (addI .i64 i (Int.ofNat 1)))) 0) (Tr.req (eqN 0 0) (Tr.req (inO 0 (mulO (addO 0 (toN i)) 5) 0 (addO 0 (mulO (toN i) 5))) (Tr.ok ((AV.slcT none (Row.M [Seg.arr .i64 (shO (appO (lstO []) 0 z) 0) (mulO (addO 0 (toN i)) 5)]) 5 (addO 0 (toN i)) false,none),H)))) (Tr.req (roomO (addO 0 (toN i)) (subO l (toN (addI .i64 i (Int.ofNat 1)))) 40) (Tr.req (leN (subO l (toN (addI .i64 i (Int.ofNat 1)))) (subO l (toN (addI .i64 i (Int.ofNat 1))))) (Tr.req (leN (addO (mulO 0 5) (mulO (subO l (toN (addI .i64 i (Int.ofNat 1)))) 5)) (mulO (subO l (toN (addI .i64 i (Int.ofNat 1)))) 5)) (Tr.req (eqN 0 0) (Tr.req (eqN (addO 0 (mulO (addO 0 (toN i)) 5)) (addO 0 (mulO (toN i) 5))) (Tr.req (andB (leN 0 1) (leN 1 1)) (Tr.req (eqN 1 1) (Tr.req (inO 0 (mulO (addO (addO 0 (toN i)) (subO l (toN (addI .i64 i (Int.ofNat 1))))) 5) 0 (addO (mulO (addO 0 (toN i)) 5) (mulO (subO l (toN (addI .i64 i (Int.ofNat 1)))) 5))) (Tr.ok ((AV.slcT none (Row.M [Seg.arr .i64 (shO (appO (shO (appO (lstO []) 0 z) 0) (mulO (addO 0 (toN i)) 5) (shO z (mulO (toN (addI .i64 i (Int.ofNat 1))) 5))) 0) (mulO (addO (addO 0 (toN i)) (subO l (toN (addI .i64 i (Int.ofNat 1))))) 5)]) 5 (addO (addO 0 (toN i)) (subO l (toN (addI .i64 i (Int.ofNat 1))))) false,none),H))))))))))))))) (Tr.req (eqN 0 0) Tr.bad))))))):=by kernel_rfl
end Go.Eng
end
section
namespace Go.Eng
open Go.Proofs
set_option linter.unusedVariables false
set_option linter.unusedSimpArgs false
set_option maxRecDepth 100000
theorem lst_map (φ:Int→Int) (L:List Int) (j:Nat) (h:j<L.length):lstO (L.map φ) j=φ (lstO L j):=by
 rw[lst_at,lst_at,List.getD_eq_getElem?_getD,List.getD_eq_getElem?_getD,List.getElem?_map,List.getElem?_eq_getElem h];rfl
section
variable (z z':Nat→Int) (φ:Int→Int)
def SameB (x:Int):Prop:=bLo z (φ x).toNat=bLo z' x.toNat∧bHi z (φ x).toNat=bHi z' x.toNat
theorem ls_map (L:List Int) (hL:∀ x ∈ L,SameB z z' φ x):∀ j,j<L.length→lsZ z (lstO (L.map φ)) j=φ (lsZ z' (lstO L) j)
 | 0,h=>lst_map φ L 0 h
 | j+1,h=>by
   have ih:=ls_map L hL j (by omega)
   obtain ⟨i,h1,h2⟩:=lsZ_in z' (lstO L) j
   have s1:=(hL _ (lst_get L (j+1) h)).2
   have s2:=(hL _ (lst_get L i (by omega))).2
   show (if bHi z (lstO (L.map φ) (j+1)).toNat<bHi z (lsZ z (lstO (L.map φ)) j).toNat then lstO (L.map φ) (j+1) else lsZ z (lstO (L.map φ)) j)=φ (if bHi z' (lstO L (j+1)).toNat<bHi z' (lsZ z' (lstO L) j).toNat then lstO L (j+1) else lsZ z' (lstO L) j)
   rw[ih,lst_map φ L _ h,s1,h2,s2]
   split<;>rfl
theorem kp_map (b:Int) (L:List Int) (hL:∀ x ∈ L,SameB z z' φ x):∀ j,j≤L.length→kpt (pB z b) (lstO (L.map φ)) j=(kpt (pB z' b) (lstO L) j).map φ
 | 0,_=>rfl
 | j+1,h=>by
   have ih:=kp_map b L hL j (by omega)
   obtain ⟨s1,s2⟩:=hL _ (lst_get L j (by omega))
   have e:pB z b (φ (lstO L j))=pB z' b (lstO L j):=by unfold pB dnB;rw[s1,s2]
   show (if pB z b (lstO (L.map φ) j)=true then kpt (pB z b) (lstO (L.map φ)) j else kpt (pB z b) (lstO (L.map φ)) j++[lstO (L.map φ) j])=(if pB z' b (lstO L j)=true then kpt (pB z' b) (lstO L) j else kpt (pB z' b) (lstO L) j++[lstO L j]).map φ
   rw[ih,lst_map φ L _ (by omega),e]
   split
   · rfl
   · simp
theorem bs_map:∀ (k:Nat) (L:List Int),(∀ x ∈ L,SameB z z' φ x)→bsS z k (L.map φ)=(bsS z' k L).map (fun p=>(p.1,φ p.2))
 | 0,L,_=>by cases L<;>rfl
 | k+1,[],_=>rfl
 | k+1,a::r,hL=>by
   have e1:=ls_map z z' φ (a::r) hL r.length (by simp)
   obtain ⟨i,h1,h2⟩:=lsZ_in z' (lstO (a::r)) r.length
   have s:=(hL _ (lst_get (a::r) i (by simp;omega))).2
   have e2:bHi z (lsZ z (lstO ((a::r).map φ)) r.length).toNat=bHi z' (lsZ z' (lstO (a::r)) r.length).toNat:=by rw[e1,h2];exact s
   have e3:=kp_map z z' φ (bHi z' (lsZ z' (lstO (a::r)) r.length).toNat) (a::r) hL (r.length+1) (by simp)
   have e4:=bs_map k (kpt (pB z' (bHi z' (lsZ z' (lstO (a::r)) r.length).toNat)) (lstO (a::r)) (r.length+1)) (fun x hx=>by
    obtain ⟨j,h3,h4,_⟩:=(kp_mem _ _ _ x).1 hx
    rw[← h4];exact hL _ (lst_get (a::r) j (by simpa using h3)))
   show (bHi z (lsZ z (lstO ((a::r).map φ)) (r.map φ).length).toNat,lsZ z (lstO ((a::r).map φ)) (r.map φ).length)::bsS z k (kpt (pB z (bHi z (lsZ z (lstO ((a::r).map φ)) (r.map φ).length).toNat)) (lstO ((a::r).map φ)) ((r.map φ).length+1))=(bHi z' (lsZ z' (lstO (a::r)) r.length).toNat,φ (lsZ z' (lstO (a::r)) r.length))::(bsS z' k (kpt (pB z' (bHi z' (lsZ z' (lstO (a::r)) r.length).toNat)) (lstO (a::r)) (r.length+1))).map (fun p=>(p.1,φ p.2))
   rw[List.length_map,e2,e3,e4,e1]
theorem fw_map (L:List Int) (hL:∀ x ∈ L,SameB z z' φ x):fwP z (L.map φ)=(fwP z' L).map (fun p=>(p.1,φ p.2)):=by
 unfold fwP;rw[List.length_map];exact bs_map z z' φ _ L hL
end
def wZ (l:Nat) (z:Nat→Int) (j x:Nat):Int:=if x<j*5∨j+1=l then z x else z (x+5)
theorem wZ_at (l:Nat) (z:Nat→Int) (j i c:Nat) (hc:c<5) (hi:i+1<l) (hj:j<l):wZ l z j (i*5+c)=z ((if i<j then i else i+1)*5+c):=by
 unfold wZ
 by_cases h:i<j
 · rw[if_pos (by omega),if_pos h]
 · rw[if_neg (by omega),if_neg h];congr 1;omega
def phi (j:Nat) (x:Int):Int:=if x<j then x else x+1
theorem wz_same (l:Nat) (z:Nat→Int) (j:Nat) (hj:j<l) (i:Nat) (hi:i+1<l):SameB z (wZ l z j) (phi j) (i:Int):=by
 have a:=wZ_at l z j i 0 (by omega) hi hj
 have b:=wZ_at l z j i 1 (by omega) hi hj
 have c:=wZ_at l z j i 2 (by omega) hi hj
 have d:=wZ_at l z j i 3 (by omega) hi hj
 have e:(phi j (i:Int)).toNat=if i<j then i else i+1:=by
  unfold phi
  by_cases h:i<j
  · rw[if_pos (by omega),if_pos h];omega
  · rw[if_neg (by omega),if_neg h];omega
 unfold SameB bLo bHi
 rw[e,Int.toNat_natCast]
 simp only[Nat.add_zero] at a
 exact ⟨by rw[b,d],by rw[a,c]⟩
theorem dl_phi (j:Nat):∀ l,dl (fun i=>if i=j then 0 else 1) l=(dl (fun _=>1) (if l≤j then l else l-1)).map (phi j)
 | 0=>by simp[dl]
 | l + 1=>by
   have ih:=dl_phi j l
   show (if (if l=j then (0:Int) else 1)=1 then dl (fun i=>if i=j then 0 else 1) l++[(l:Int)] else dl (fun i=>if i=j then 0 else 1) l)=_
   by_cases h:l=j
   · subst h
     rw[if_neg (by rw[if_pos rfl];decide),ih,if_pos (Nat.le_refl _),if_neg (by omega),Nat.add_sub_cancel]
   · rw[if_pos (by rw[if_neg h]),ih]
     have st:∀ k,dl (fun _=>1) (k+1)=dl (fun _=>1) k++[(k:Int)]:=fun k=>by
      show (if (1:Int)=1 then _ else _)=_
      rw[if_pos rfl]
     by_cases h2:l+1≤j
     · rw[if_pos (by omega),if_pos h2,st,List.map_append]
       congr 1
       simp[phi];omega
     · rw[if_neg (by omega),if_neg h2,show l+1-1=(l-1)+1 by omega,st,List.map_append]
       congr 1
       simp[phi]
       rw[if_neg (by omega)];omega
theorem al_one (l:Nat) (z:Nat→Int):alL l z=dl (fun _=>1) l:=dl_congr (fun i hi=>by unfold ndM;rw[nd_nil];simp)
theorem rest_phi (l:Nat) (z:Nat→Int) (j:Nat) (hj:j<l):kpt (eqP j) (lstO (alL l z)) l=(alL (l-1) (wZ l z j)).map (phi j):=by
 have h:=kp_dl (eqP j) (fun _=>1) l
 have hl:(dl (fun _=>1) l).length=l:=dl_all (fun i _=>rfl)
 rw[hl] at h
 rw[al_one,h,al_one]
 have:=dl_phi j l
 rw[if_neg (by omega)] at this
 rw[← this]
 refine dl_congr (fun i hi=>?_)
 unfold eqP
 by_cases e:i=j
 · subst e;simp
 · have:¬ ((i:Int)=(j:Int)):=by omega
   simp[e,this]
theorem rest_len (l:Nat) (z:Nat→Int) (j:Nat) (hj:j<l):(fwP z (kpt (eqP j) (lstO (alL l z)) l)).length=(fwP (wZ l z j) (alL (l-1) (wZ l z j))).length:=by
 rw[rest_phi l z j hj,fw_map z (wZ l z j) (phi j) _ (fun x hx=>by
  obtain ⟨i,rfl,h1,_⟩:=(dl_mem _ _ _).1 hx
  exact wz_same l z j hj i (by omega)),List.length_map]
theorem chk_of {l:Nat} {z:Nat→Int} (hl:1≤l∧l≤14) (h:∀ j,j<l→0≤z (j*5)∧z (j*5)≤z (j*5+1)∧z (j*5+1)≤10000∧0≤z (j*5+2)∧z (j*5+2)≤z (j*5+3)∧z (j*5+3)≤10000∧0≤z (j*5+4)∧z (j*5+4)≤100000):chkO l z=0:=by
 unfold chkO
 rw[if_neg (by omega)]
 cases he:exN (oddO z) l with
 | false=>rfl
 | true =>
   obtain ⟨j,hj,e⟩:=(exN_iff _ _).1 he
   have h1:=h j hj
   have h2:oddO z j=false:=by simp[oddO];omega
   rw[h2] at e;cases e
theorem wz_chk {l:Nat} {z:Nat→Int} (h:chkO l z=0) (j:Nat) (hj:j<l) (h2:2≤l):chkO (l-1) (wZ l z j)=0:=by
 obtain ⟨hl,hb⟩:=chk_odd h
 refine chk_of (by omega) (fun i hi=>?_)
 have a:=wZ_at l z j i 0 (by omega) (by omega) hj
 have b:=wZ_at l z j i 1 (by omega) (by omega) hj
 have c:=wZ_at l z j i 2 (by omega) (by omega) hj
 have d:=wZ_at l z j i 3 (by omega) (by omega) hj
 have e:=wZ_at l z j i 4 (by omega) (by omega) hj
 simp only[Nat.add_zero] at a
 rw[a,b,c,d,e]
 exact hb _ (by split<;>omega)
theorem wz_who {l:Nat} {z:Nat→Int} (h:∀ i,i<l→bLo z i≤bHi z i) (j:Nat) (hj:j<l):∀ i,i<l-1→bLo (wZ l z j) i≤bHi (wZ l z j) i:=fun i hi=>by
 have:=wz_same l z j hj i (by omega)
 unfold SameB at this
 rw[Int.toNat_natCast] at this
 rw[← this.1,← this.2]
 refine h _ ?_
 unfold phi;split<;>omega
end Go.Eng
end
section
namespace Go.Eng
open Go.Proofs
set_option linter.unusedVariables false
set_option linter.unusedSimpArgs false
set_option maxRecDepth 100000
noncomputable def wV (l:Nat) (z:Nat→Int) (j:Nat):AV:=if l=1 then .slcT none (.I .i64 []) 5 0 true else slA 5 (l-1) (wZ l z j)
theorem app0 (g:Nat→Int):appO (lstO []) 0 g=g:=by
 rw[appO_fn];funext i;simp
theorem mulO_1 (b:Nat):mulO 1 b=b:=by rw[mulO_eq,Nat.one_mul]
section
variable (n l:Nat) (z:Nat→Int) (H:Heap)
theorem c47 (j:Nat) (hj:j<l) (hl:l≤14):cd (n+1) (.fn 47) [slA 5 l z,.int .i64 (j:Int)] H=some (wV l z j,H):=by
 have ej:addI .i64 (j:Int) (Int.ofNat 1)=((j+1:Nat):Int):=by rw[addI_eq,show Int.ofNat 1=1 from rfl];exact wr_64 (by omega) (by omega)
 have t1:toN ((j:Nat):Int)=j:=by rw[toN_eq];rfl
 have t2:toN (((j+1:Nat):Nat):Int)=j+1:=by rw[toN_eq];rfl
 refine fn_all (n:=n) Tryz.func47 rfl rfl rfl (u47 n l z H j) (il_no0 n) (noBT_ok _ _) (noRT_ok _ _) ?_
 rw[ej,t1,t2]
 have s1:subO l (j+1)=l-(j+1):=by rw[subO_eq]
 simp only[shO_zero,s1,app0,addO_eq,Nat.zero_add]
 unfold wV
 by_cases h0:j=0
 · subst h0
   by_cases h1:l=1
   · subst h1
     rw[if_pos rfl]
     repeat' first | (refine Tr.all_ite (fun hc=>?_) (fun hc=>?_)<;>(try simp (disch:=omega) only[nV,nW] at hc)<;>try omega) | (refine Tr.all_req ?_ ?_;· (try simp (disch:=omega) only[nV,nW]);try omega) | (refine Tr.all_reqP ?_ ?_;· first | exact trivial | rfl | exact ⟨rfl,rfl⟩ | exact ⟨rfl,rfl,rfl⟩ | (simp (disch:=omega) only[nV,nW];done) | ((try simp (disch:=omega) only[nV,nW]);omega)) | fail
     all_goals first
      | (refine Tr.all_ok ⟨?_,rfl⟩
         show AV.slcT none (.I .i64 []) 5 0 (eqN 0 0)=_
         rw[beqN_self])
      | fail
   · rw[if_neg h1]
     repeat' first | (refine Tr.all_ite (fun hc=>?_) (fun hc=>?_)<;>(try simp (disch:=omega) only[nV,nW] at hc)<;>try omega) | (refine Tr.all_req ?_ ?_;· (try simp (disch:=omega) only[nV,nW]);try omega) | (refine Tr.all_reqP ?_ ?_;· first | exact trivial | rfl | exact ⟨rfl,rfl⟩ | exact ⟨rfl,rfl,rfl⟩ | (simp (disch:=omega) only[nV,nW];done) | ((try simp (disch:=omega) only[nV,nW]);omega)) | fail
     all_goals first
      | (refine Tr.all_ok ⟨?_,rfl⟩
         show AV.slcT none (.M [.arr .i64 (shO z (mulO 1 5)) (mulO (l-1) 5)]) 5 (l-1) false=.slcT none (.M [.arr .i64 (wZ l z 0) (mulO (l-1) 5)]) 5 (l-1) false
         congr 4
         rw[mulO_1,shO_eq];funext x
         unfold wZ
         rw[if_neg (by omega)];congr 1;omega)
      | fail
 · rw [if_neg (by omega)]
   by_cases h1:j+1=l
   · repeat' first | (refine Tr.all_ite (fun hc=>?_) (fun hc=>?_)<;>(try simp (disch:=omega) only[nV,nW] at hc)<;>try omega) | (refine Tr.all_req ?_ ?_;· (try simp (disch:=omega) only[nV,nW]);try omega) | (refine Tr.all_reqP ?_ ?_;· first | exact trivial | rfl | exact ⟨rfl,rfl⟩ | exact ⟨rfl,rfl,rfl⟩ | (simp (disch:=omega) only[nV,nW];done) | ((try simp (disch:=omega) only[nV,nW]);omega)) | fail
     all_goals first
      | (refine Tr.all_ok ⟨?_,rfl⟩
         show AV.slcT none (.M [.arr .i64 z (mulO j 5)]) 5 j false=.slcT none (.M [.arr .i64 (wZ l z j) (mulO (l-1) 5)]) 5 (l-1) false
         rw[show l-1=j by omega]
         congr 4
         funext x
         unfold wZ
         rw[if_pos (.inr h1)])
      | fail
   · repeat' first | (refine Tr.all_ite (fun hc=>?_) (fun hc=>?_)<;>(try simp (disch:=omega) only[nV,nW] at hc)<;>try omega) | (refine Tr.all_req ?_ ?_;· (try simp (disch:=omega) only[nV,nW]);try omega) | (refine Tr.all_reqP ?_ ?_;· first | exact trivial | rfl | exact ⟨rfl,rfl⟩ | exact ⟨rfl,rfl,rfl⟩ | (simp (disch:=omega) only[nV,nW];done) | ((try simp (disch:=omega) only[nV,nW]);omega)) | fail
     all_goals first
      | (refine Tr.all_ok ⟨?_,rfl⟩
         show AV.slcT none (.M [.arr .i64 (appO z (mulO j 5) (shO z (mulO (j+1) 5))) (mulO (j+(l-(j+1))) 5)]) 5 (j+(l-(j+1))) false=.slcT none (.M [.arr .i64 (wZ l z j) (mulO (l-1) 5)]) 5 (l-1) false
         rw[show j+(l-(j+1))=l-1 by omega]
         congr 4
         rw[appO_fn];funext x
         simp only[mulO_eq,shO_eq]
         unfold wZ
         by_cases hx:x<j*5
         · rw[if_pos hx,if_pos (.inl hx)]
         · rw[if_neg hx,if_neg (by omega)];congr 1;omega)
      | fail
noncomputable def P66 (k:Nat) (f:Nat→Int):Nat:=(fwP f (alL k f)).length
theorem cs_rest (j:Nat) (hj:j<l):csM l z j=if P66 (l-1) (wZ l z j)<P66 l z then 1 else 0:=by
 unfold csM P66;rw[rest_len l z j hj]
end
end Go.Eng
end
section
namespace Go.Eng
open Go.Proofs
set_option linter.unusedVariables false
set_option linter.unusedSimpArgs false
theorem ls_min (z g:Nat→Int):∀ (k j:Nat),j≤k→bHi z (lsZ z g k).toNat≤bHi z (g j).toNat
 | 0,j,h=>by
   have:j=0:=by omega
   subst this;exact Int.le_refl _
 | k + 1,j,h=>by
   have e:lsZ z g (k+1)=if bHi z (g (k+1)).toNat<bHi z (lsZ z g k).toNat then g (k+1) else lsZ z g k:=rfl
   rw[e]
   by_cases hj:j=k+1
   · subst hj;split
     · exact Int.le_refl _
     · omega
   · have:=ls_min z g k j (by omega)
     split
     · omega
     · exact this
theorem lst_mem {L:List Int} {x:Int} (h:x ∈ L):∃ j,j<L.length∧lstO L j=x:=by
 obtain ⟨j,hj,rfl⟩:=List.getElem_of_mem h
 exact ⟨j,hj,by rw[lst_at,List.getD_eq_getElem?_getD,List.getElem?_eq_getElem hj];rfl⟩
theorem pB_iff (z:Nat→Int) (b x:Int):pB z b x=true↔bLo z x.toNat≤b∧b≤bHi z x.toNat:=by
 unfold pB dnB;rw[Bool.and_eq_true,decide_eq_true_eq,decide_eq_true_eq]
theorem bs_spec (l:Nat) (z:Nat→Int):∀ (k:Nat) (L:List Int),L.length≤k→(∀ x ∈ L,okE l z x) →
 (∀ x ∈ L,∃ p ∈ bsS z k L,pB z p.1 x=true)∧(∀ p ∈ bsS z k L,p.2 ∈ L∧p.1=bHi z p.2.toNat)∧(bsS z k L).Pairwise (fun p q=>p.1<bLo z q.2.toNat)
 | 0,L,h,_=>by
   have:L=[]:=List.eq_nil_of_length_eq_zero (by omega)
   subst this;exact ⟨(fun x h=>by cases h),(fun p h=>by simp[bsS] at h),(by simp[bsS])⟩
 | k+1,[],_,_=>⟨(fun x h=>by cases h),(fun p h=>by simp[bsS] at h),(by simp[bsS])⟩
 | k + 1,a::r,h,hok=>by
   have e:bsS z (k+1) (a::r)=(bHi z (lsZ z (lstO (a::r)) r.length).toNat,lsZ z (lstO (a::r)) r.length)::bsS z k (kpt (pB z (bHi z (lsZ z (lstO (a::r)) r.length).toNat)) (lstO (a::r)) (r.length+1)):=rfl
   rw[e]
   have hmin:=ls_min z (lstO (a::r)) r.length
   obtain ⟨i0,hi1,hi2⟩:=lsZ_in z (lstO (a::r)) r.length
   have hin:lsZ z (lstO (a::r)) r.length ∈ a::r:=by rw[hi2];exact lst_get (a::r) i0 (by simp;omega)
   have hok0:=hok _ hin
   generalize hn:lsZ z (lstO (a::r)) r.length=n at *
   have hm:=kp_mem (pB z (bHi z n.toNat)) (lstO (a::r)) (r.length+1)
   have hsub:∀ x ∈ kpt (pB z (bHi z n.toNat)) (lstO (a::r)) (r.length+1),x ∈ a::r∧pB z (bHi z n.toNat) x=false:=fun x hx=>by
    obtain ⟨j,h1,h2,h3⟩:=(hm x).1 hx
    exact ⟨by rw[← h2];exact lst_get (a::r) j (by simpa using h1),h3⟩
   have hlt:(kpt (pB z (bHi z n.toNat)) (lstO (a::r)) (r.length+1)).length<r.length+1:=kp_lt _ _ _ i0 (by omega) (by rw[← hi2];exact (pB_iff _ _ _).2 ⟨hok0.2.2,Int.le_refl _⟩)
   obtain ⟨s1,s2,s3⟩:=bs_spec l z k (kpt (pB z (bHi z n.toNat)) (lstO (a::r)) (r.length+1)) (by simp at h;omega) (fun x hx=>hok x (hsub x hx).1)
   refine ⟨fun x hx=>?_,fun p hp=>?_,List.Pairwise.cons (fun q hq=>?_) s3⟩
   · cases hb:pB z (bHi z n.toNat) x with
     | true=>exact ⟨_,List.mem_cons_self,hb⟩
     | false =>
       obtain ⟨j,hj,hx2⟩:=lst_mem hx
       obtain ⟨p,hp,h2⟩:=s1 x ((hm x).2 ⟨j,by simpa using hj,hx2,hb⟩)
       exact ⟨p,List.mem_cons_of_mem _ hp,h2⟩
   · rcases List.mem_cons.1 hp with rfl | hp
     · exact ⟨hin,rfl⟩
     · obtain ⟨h1,h2⟩:=s2 p hp
       exact ⟨(hsub _ h1).1,h2⟩
   · obtain ⟨h1,_⟩:=s2 q hq
     obtain ⟨h3,h4⟩:=hsub _ h1
     obtain ⟨j,hj,hx2⟩:=lst_mem h3
     have h5:=hmin j (by simp at hj;omega)
     rw[hx2] at h5
     show bHi z n.toNat < _
     apply Int.not_le.1
     intro hc
     have:=(pB_iff z (bHi z n.toNat) q.2).2 ⟨hc,h5⟩
     rw[h4] at this;cases this
def Disj (z:Nat→Int) (a c:Int):Prop:=∀ b,¬ (pB z b a=true∧pB z b c=true)
theorem pierce_le (z:Nat→Int):∀ (A B:List Int),(∀ a ∈ A,∃ b ∈ B,pB z b a=true)→A.Pairwise (Disj z)→A.length≤B.length
 | [],B,_,_=>Nat.zero_le _
 | a::A,B,h,hd=>by
   obtain ⟨b,hb,h1⟩:=h a List.mem_cons_self
   rw[List.pairwise_cons] at hd
   have ih:=pierce_le z A (B.erase b) (fun a' ha'=>by
    obtain ⟨b',hb',h2⟩:=h a' (List.mem_cons_of_mem _ ha')
    exact ⟨b',(List.mem_erase_of_ne (fun e=>by subst e;exact hd.1 a' ha' _ ⟨h1,h2⟩)).2 hb',h2⟩) hd.2
   have:=List.length_erase_of_mem hb
   have hp:0<B.length:=List.length_pos_of_mem hb
   simp only[List.length_cons]
   omega
theorem fw_spec (l:Nat) (z:Nat→Int) (L:List Int) (hok:∀ x ∈ L,okE l z x) :
 (∀ x ∈ L,∃ b ∈ (fwP z L).map (·.1),pB z b x=true)∧(∀ a ∈ (fwP z L).map (·.2),a ∈ L)∧((fwP z L).map (·.2)).Pairwise (Disj z):=by
 obtain ⟨h1,h2,h3⟩:=bs_spec l z L.length L (Nat.le_refl _) hok
 refine ⟨fun x hx=>?_,fun a ha=>?_,?_⟩
 · obtain ⟨p,hp,h⟩:=h1 x hx
   exact ⟨p.1,List.mem_map_of_mem hp,h⟩
 · obtain ⟨p,hp,rfl⟩:=List.mem_map.1 ha
   exact (h2 p hp).1
 · rw[List.pairwise_map]
   refine List.Pairwise.imp_of_mem (fun {p q} hp hq hpq b hb=>?_) h3
   obtain ⟨e1,e2⟩:=hb
   rw[pB_iff] at e1 e2
   have:=(h2 p hp).2
   omega
theorem fw_le (l:Nat) (z:Nat→Int) (L L':List Int) (hok:∀ x ∈ L,okE l z x) (hs:∀ x ∈ L',x ∈ L):(fwP z L').length≤(fwP z L).length:=by
 obtain ⟨a1,a2,a3⟩:=fw_spec l z L hok
 obtain ⟨b1,b2,b3⟩:=fw_spec l z L' (fun x hx=>hok x (hs x hx))
 have:=pierce_le z ((fwP z L').map (·.2)) ((fwP z L).map (·.1)) (fun a ha=>a1 a (hs a (b2 a ha))) b3
 simpa using this
theorem fw_ge (l:Nat) (z:Nat→Int) (L L':List Int) (j:Int) (hok:∀ x ∈ L,okE l z x) (hs:∀ x ∈ L',x ∈ L) (ht:∀ x ∈ L,x ∈ L'∨x=j):(fwP z L).length≤(fwP z L').length+1:=by
 obtain ⟨a1,a2,a3⟩:=fw_spec l z L hok
 obtain ⟨b1,b2,b3⟩:=fw_spec l z L' (fun x hx=>hok x (hs x hx))
 have:=pierce_le z ((fwP z L).map (·.2)) (bHi z j.toNat::(fwP z L').map (·.1)) (fun a ha=>by
  rcases ht a (a2 a ha) with h | rfl
  · obtain ⟨b,h1,h2⟩:=b1 a h
    exact ⟨b,List.mem_cons_of_mem _ h1,h2⟩
  · exact ⟨_,List.mem_cons_self,(pB_iff _ _ _).2 ⟨(hok _ (a2 _ ha)).2.2,Int.le_refl _⟩⟩) a3
 simpa using this
end Go.Eng
end
section
namespace Go.Eng
open Go.Proofs
set_option linter.unusedVariables false
set_option linter.unusedSimpArgs false
set_option maxRecDepth 100000
theorem cs64 {j:Nat} (h:j<2 ^ 31):addI .i64 (j:Int) (Int.ofNat 1)=((j+1:Nat):Int):=by rw[addI_eq,show Int.ofNat 1=1 from rfl];exact wr_64 (by omega) (by omega)
theorem id1 (j:Nat):idO 0 (j:Int) 1=j:=by rw[idO_eq];omega
section
variable (n k:Nat) (b:Nat→Int) (full:Bool) (H:Heap)
end
end Go.Eng
end
section
namespace Go.Eng
open Go.Proofs
set_option linter.unusedVariables false
set_option linter.unusedSimpArgs false
set_option maxRecDepth 100000
end Go.Eng
end
section
namespace Go.Eng
open Go.Proofs
set_option linter.unusedVariables false
set_option linter.unusedSimpArgs false
set_option maxRecDepth 100000
section
variable (n l k:Nat) (z b:Nat→Int) (full:Bool) (H:Heap)
end
end Go.Eng
end
section
namespace Go.Eng
open Go.Proofs
set_option linter.unusedVariables false
set_option linter.unusedSimpArgs false
set_option maxRecDepth 100000
section
variable (n l k:Nat) (z b:Nat→Int) (full:Bool) (H:Heap)
end
end Go.Eng
end
section
namespace Go.Eng
open Go.Proofs
set_option linter.unusedVariables false
set_option linter.unusedSimpArgs false
set_option maxRecDepth 100000
noncomputable def gX (A:List AV) (V:AV):List AV→Option (Prop×AV):=fun x=>some (x=A,V)
noncomputable def tX (t:Ctr) (f:FuncId) (A:List AV) (V:AV):Ctr:=ctG t f (gX A V)
theorem tX_ok {c f:Nat} {t:Ctr} {A:List AV} {V:AV} (ht:t.Ok (cd c)) (h:∀ H,cd c (.fn f) A H=some (V,H)):(tX t f A V).Ok (cd c):=by
 refine ctG_ok ht (fun args p v hg hp H=>?_)
 unfold gX at hg
 simp only[nP] at hg
 obtain ⟨rfl,rfl⟩:=hg
 rw[hp];exact h H
theorem ctW {c:Nat} {t:Ctr} (h:0<c) (ht:t.Ok (cd c)):(ctG t 15 g15).Ok (cd c):=by
 obtain ⟨m,rfl⟩:∃ m,c=m+1:=⟨c-1,by omega⟩
 exact ctWk ht
section
variable (n l k:Nat) (z b:Nat→Int) (full:Bool) (H:Heap)
end
end Go.Eng
end
