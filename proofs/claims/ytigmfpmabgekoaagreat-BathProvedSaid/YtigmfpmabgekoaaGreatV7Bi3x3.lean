/- Bath: CheckApart of the program, its answer; the law BathAparts. -/
import Derived.Test.YtigmfpmabgekoaaGreatV7Bi2x6
section
namespace Go.Eng
open Go.Proofs
set_option linter.unusedVariables false
set_option linter.unusedSimpArgs false
set_option maxRecDepth 100000
noncomputable def gR (L:AV) (R:AV→Int) (C:AV→Prop):List AV→Option (Prop×AV)
 | [l,b]=>some (l=L∧C b,.int .i64 (R b))
 | _=>none
section
variable (n l k:Nat) (z b:Nat→Int) (H:Heap)
theorem l33c (hl:l≤14) (hk:k≤1000) (hb:∀ j,j<k→0≤b j∧b j<l):exec (cxD (n+1) 33 74) (.block 2 (.loop (part Tryz.f33 [1,1,1,1,1,1,0,1,0,0]))) (fr33c k b 0) (lv33 l (oY z l)::H)=some (cond (exN (mtA z b) k) (.ret,[(4,.int .i64 14)],lv33 l (oY z l)::H) (.normal,fr33c k b (Int.ofNat k)++[(45,.bool false)],lv33 l (oY z l)::H)):=by
 refine findX 2 (fun j=>fr33c k b (j:Int)) (fun _=>lv33 l (oY z l)::H) k (mtA z b) (fun j=>([(4,.int .i64 14)],lv33 l (oY z l)::H)) (fr33c k b (Int.ofNat k)++[(45,.bool false)],lv33 l (oY z l)::H) (by omega) (fun i hi=>?_) ?_
 · have e:toN (i:Int)=i:=by rw[toN_eq];exact Int.toNat_natCast i
   have hx:=l33d n l k z b H hl hk hb i hi (andB false (eqN i k))
   refine ex_all (t33c (n+1) l k (oY z l) b H i (b i) (mtA z b i)) (il_no0 _) (blkE_ok (noBT_ok _ _) b33d (fun x hy=>blk_ite hy (by rw[e];exact hx))) (noRT_ok _ _) ?_
   rw[cs64 (by omega),id1,e]
   generalize b i=q at *
   cases hm:mtA z b i with
   | true =>
     simp only[if_true]
     repeat' first | (refine Tr.all_ite (fun hc=>?_) (fun hc=>?_)<;>(try simp (disch:=omega) only[nV,nW] at hc)<;>try omega) | (refine Tr.all_req ?_ ?_;· (try simp (disch:=omega) only[nV,nW]);try omega) | (refine Tr.all_reqP ?_ ?_;· first | exact trivial | rfl | exact ⟨rfl,rfl⟩ | exact ⟨rfl,rfl,rfl⟩ | (simp (disch:=omega) only[nV,nW];done) | ((try simp (disch:=omega) only[nV,nW]);omega)) | fail
     all_goals first
      | exact Tr.all_ok rfl
      | fail
   | false =>
     simp only[Bool.false_eq_true,if_false]
     repeat' first | (refine Tr.all_ite (fun hc=>?_) (fun hc=>?_)<;>(try simp (disch:=omega) only[nV,nW] at hc)<;>try omega) | (refine Tr.all_req ?_ ?_;· (try simp (disch:=omega) only[nV,nW]);try omega) | (refine Tr.all_reqP ?_ ?_;· first | exact trivial | rfl | exact ⟨rfl,rfl⟩ | exact ⟨rfl,rfl,rfl⟩ | (simp (disch:=omega) only[nV,nW];done) | ((try simp (disch:=omega) only[nV,nW]);omega)) | fail
     all_goals first
      | exact Tr.all_ok ⟨rfl,rfl⟩
      | fail
 · obtain ⟨x,h1,rfl⟩:=ex_all (Q:=fun x=>x=(.exit 2,fr33c k b (Int.ofNat k)++[(45,.bool false)],lv33 l (oY z l)::H)) (t33x (n+1) l k (oY z l) b H (Int.ofNat k)) (il_no0 _) (stopB_ok (noBT_ok _ _) 4) (noRT_ok _ _) (by
    refine Tr.all_ite (fun hc=>?_) (fun hc=>Tr.all_ok rfl)
    simp (disch:=omega) only[nV,nW] at hc;omega)
   exact h1
theorem c33 (hk:k≤1000):cd (n+13) (.fn 33) [slA 5 l z,sl1 k b false] H=some (.int .i64 (caE l z k b),H):=by
 have hc:∀ H,cd (n+12) (.fn 52) [slA 5 l z] H=some (opnV l z,H):=fun H=>c52 (n+2) l z H
 unfold caE
 by_cases h:chkO l z=0
 · rw [if_neg (fun x=>x h)]
   obtain ⟨hl,_⟩:=chk_odd h
   rw[show opnV l z=.tup [bookV l z,.int .i64 0] by unfold opnV;rw[if_pos h]] at hc
   have x1:=l33a (n+12) l k z b H hk
   rw[od_33] at x1
   cases e1:exN (od34 l b) k with
   | true =>
     rw[e1] at x1
     rw[if_pos rfl]
     refine fn_all (n:=n+12) Tryz.func33 rfl rfl rfl (u33a (n+12) l k z (oY z l) b H) (il_ok0 _ (n+12) (tX_ok (noCt_ok _) hc)) (blkE_ok (stopB_ok (noBT_ok _ _) 2) b33a (fun x hy=>by rw[← Tr.ok_some hy];simp only[Res.st,hints_eq];exact x1)) (noRT_ok _ _) ?_
     repeat' first | (refine Tr.all_ite (fun hc=>?_) (fun hc=>?_)<;>(try simp (disch:=omega) only[nV,nW] at hc)<;>try omega) | (refine Tr.all_req ?_ ?_;· (try simp (disch:=omega) only[nV,nW]);try omega) | (refine Tr.all_reqP ?_ ?_;· first | exact trivial | rfl | exact ⟨rfl,rfl⟩ | exact ⟨rfl,rfl,rfl⟩ | (simp (disch:=omega) only[nV,nW];done) | ((try simp (disch:=omega) only[nV,nW]);omega)) | fail
     all_goals first
      | exact Tr.all_ok ⟨rfl,rfl⟩
      | fail
   | false =>
     rw[e1] at x1
     rw[if_neg (by decide)]
     have hb:=od_ok e1
     have x2:=c75 (n+8) l k z b H hl.2 hk hb
     have x3:=l33c (n+11) l k z b H hl.2 hk hb
     refine fn_all (n:=n+12) Tryz.func33 rfl rfl rfl (u33 (n+12) l k z (oY z l) b H false (exN (noA z b) k) (exN (mtA z b) k) (nxA b k)) (il_ok0 _ (n+12) (ctE_ok (tX_ok (noCt_ok _) hc) (fun x hx=>by rw[← Tr.ok_some hx];exact x2))) (blkE_ok (blkE_ok (noBT_ok _ _) b33c (fun x hy=>blk_ite hy x3)) b33a (fun x hy=>blk_ite hy x1)) (noRT_ok _ _) ?_
     cases exN (noA z b) k<;>cases exN (mtA z b) k
     all_goals
      repeat' first | (refine Tr.all_ite (fun hc=>?_) (fun hc=>?_)<;>(try simp (disch:=omega) only[nV,nW] at hc)<;>try omega) | (refine Tr.all_req ?_ ?_;· (try simp (disch:=omega) only[nV,nW]);try omega) | (refine Tr.all_reqP ?_ ?_;· first | exact trivial | rfl | exact ⟨rfl,rfl⟩ | exact ⟨rfl,rfl,rfl⟩ | (simp (disch:=omega) only[nV,nW];done) | ((try simp (disch:=omega) only[nV,nW]);omega)) | fail
      all_goals first
       | exact Tr.all_ok ⟨rfl,rfl⟩
       | fail
 · rw[if_pos h]
   rw[show opnV l z=.tup [.nilp,.int .i64 (chkO l z)] by unfold opnV;rw[if_neg h]] at hc
   refine fn_all (n:=n+12) Tryz.func33 rfl rfl rfl (u33x (n+12) l k z b H (chkO l z)) (il_ok0 _ (n+12) (tX_ok (noCt_ok _) hc)) (stopB_ok (noBT_ok _ _) 0) (noRT_ok _ _) ?_
   repeat' first | (refine Tr.all_ite (fun hc=>?_) (fun hc=>?_)<;>(try simp (disch:=omega) only[nV,nW] at hc)<;>try omega) | (refine Tr.all_req ?_ ?_;· (try simp (disch:=omega) only[nV,nW]);try omega) | (refine Tr.all_reqP ?_ ?_;· first | exact trivial | rfl | exact ⟨rfl,rfl⟩ | exact ⟨rfl,rfl,rfl⟩ | (simp (disch:=omega) only[nV,nW];done) | ((try simp (disch:=omega) only[nV,nW]);omega)) | fail
   all_goals first
    | exact Tr.all_ok ⟨rfl,rfl⟩
    | fail
theorem gR_ok {c f:Nat} {t:Ctr} {L:AV} {R:AV→Int} {C:AV→Prop} (ht:t.Ok (cd c)) (h:∀ b H,C b→cd c (.fn f) [L,b] H=some (.int .i64 (R b),H)):(ctG t f (gR L R C)).Ok (cd c):=by
 refine ctG_ok ht (fun args p v hg hp H=>?_)
 unfold gR at hg
 split at hg
 · simp only[nP] at hg
   obtain ⟨rfl,rfl⟩:=hg
   obtain ⟨rfl,hc⟩:=hp
   exact h _ H hc
 · cases hg
noncomputable def rAp (l:Nat) (z:Nat→Int) (B:AV):Int:=open Classical in if h:∃ k b,k≤1000∧B=sl1 k b false then caE l z h.choose h.choose_spec.choose else 0
def isAp (B:AV):Prop:=∃ k b,k≤1000∧B=sl1 k b false
theorem c33r (l:Nat) (z:Nat→Int) (B:AV) (H:Heap) (h:isAp B):cd (n+13) (.fn 33) [slA 5 l z,B] H=some (.int .i64 (rAp l z B),H):=by
 have h':∃ k b,k≤1000∧B=sl1 k b false:=h
 have e:=h'.choose_spec.choose_spec
 have e3:rAp l z B=caE l z h'.choose h'.choose_spec.choose:=by unfold rAp;rw[dif_pos h']
 rw[e3]
 conv=>lhs;rw[e.2]
 exact c33 n l _ z _ H e.1
theorem c34r (l:Nat) (z:Nat→Int) (B:AV) (H:Heap) (h:isAp B):cd (n+4) (.fn 34) [slA 5 l z,B] H=some (.int .i64 (rAp l z B),H):=by
 have h':∃ k b,k≤1000∧B=sl1 k b false:=h
 have e:=h'.choose_spec.choose_spec
 have e3:rAp l z B=caE l z h'.choose h'.choose_spec.choose:=by unfold rAp;rw[dif_pos h']
 rw[e3]
 conv=>lhs;rw[e.2]
 exact c34 n l _ z _ H e.1
theorem rAp_eq (hk:k≤1000):rAp l z (sl1 k b false)=caE l z k b:=by
 have h1:=c34r 0 l z (sl1 k b false) [] ⟨k,b,hk,rfl⟩
 have h2:=c34 0 l k z b [] hk
 rw[h1] at h2
 simpa using h2
end
end Go.Eng
end
section
namespace Go.Eng
open Go.Proofs
set_option linter.unusedVariables false
set_option linter.unusedSimpArgs false
theorem fw_pairs {l:Nat} {z:Nat→Int} (h:whoE l z=0):(fwP z (alL l z)).Pairwise (fun p q=>p.1<bLo z q.2.toNat)∧(∀ p ∈ fwP z (alL l z),okE l z p.2∧p.1=bHi z p.2.toNat):=by
 obtain ⟨h1,h2,h3⟩:=bs_spec l z (alL l z).length (alL l z) (Nat.le_refl _) (alL_ok h)
 exact ⟨h3,fun p hp=>⟨alL_ok h _ (h2 p hp).1,(h2 p hp).2⟩⟩
theorem fwB_lt {l:Nat} {z:Nat→Int} (h:whoE l z=0):(fwB l z).Pairwise (· < ·):=by
 obtain ⟨h1,h2⟩:=fw_pairs h
 show ((fwP z (alL l z)).map (·.1)).Pairwise (· < ·)
 rw[List.pairwise_map]
 refine h1.imp_of_mem (fun {p q} hp hq hpq=>?_)
 obtain ⟨⟨_,_,o⟩,e⟩:=h2 q hq
 omega
theorem fwB_rg {l:Nat} {z:Nat→Int} (h:whoE l z=0):∀ b ∈ fwB l z,-10000≤b∧b≤10000:=fun b hb=>by
 obtain ⟨h1,h2⟩:=fw_pairs h
 have hb:b ∈ (fwP z (alL l z)).map (·.1):=hb
 obtain ⟨p,hp,rfl⟩:=List.mem_map.1 hb
 obtain ⟨⟨o1,o2,o⟩,e⟩:=h2 p hp
 obtain ⟨_,hz⟩:=chk_odd (who_ok l z h).1
 have:=hz p.2.toNat (by omega)
 unfold bHi at e
 omega
theorem cb_fw {l:Nat} {z x:Nat→Int} (h:whoE l z=0) (hx:∀ j,j<P66 l z→x j=lstO (fwB l z) j):cbE l z (P66 l z) x=0:=by
 have hB:=P_B l z
 have hlt:∀ i j,(hi:i<(fwB l z).length)→(hj:j<(fwB l z).length)→i<j→(fwB l z)[i]<(fwB l z)[j]:=List.pairwise_iff_getElem.1 (fwB_lt h)
 obtain ⟨h1,h2⟩:=who_ok l z h
 obtain ⟨hl,_⟩:=chk_odd h1
 have hP:P66 l z≤l:=fw_len l z
 unfold cbE
 rw[if_neg (fun q=>q h1)]
 have e:ibE (P66 l z) x=0:=by
  unfold ibE
  rw[if_neg (by omega),if_neg]
  rw[exN_no];· decide
  intro j hj
  have r:=fwB_rg h _ (List.getElem_mem (show j<(fwB l z).length by omega))
  have ej:x j=(fwB l z)[j]'(by omega):=by rw[hx j hj,lst_el _ j (by omega)]
  unfold od38
  rw[decide_eq_false (by omega),decide_eq_false (by omega)]
  by_cases h0:0<j
  · have:=hlt (j-1) j (by omega) (by omega) (by omega)
    have ej1:x (j-1)=(fwB l z)[j-1]'(by omega):=by rw[hx (j-1) (by omega),lst_el _ (j-1) (by omega)]
    rw[decide_eq_false (show ¬ x j≤x (j-1) by omega)];simp
  · rw[decide_eq_false h0];rfl
 rw[if_neg (fun q=>q e),if_neg]
 rw[exN_no];· decide
 intro i hi
 obtain ⟨a1,_,_⟩:=fw_spec l z (alL l z) (alL_ok h)
 obtain ⟨b,hb,hp⟩:=a1 i (al_in l z i hi)
 have hb:b ∈ fwB l z:=hb
 obtain ⟨j,hj,hb2⟩:=lst_mem hb
 have:dnN z x (P66 l z) i=true:=by
  unfold dnN
  refine (exN_iff _ _).2 ⟨j,by omega,?_⟩
  rw[hx j (by omega),hb2]
  have e2:pB z b (i:Int)=dnB z b i:=by unfold pB;rw[Int.toNat_natCast]
  rw[← e2];exact hp
 rw[this];rfl
theorem ca_le {l:Nat} {z:Nat→Int} {k m:Nat} {b o:Nat→Int} (h:cbE l z k b=0) (ha:caE l z m o=0):m≤k:=by
 obtain ⟨_,h2,h3⟩:=ca_apt ha
 have:=cb_ge h ((List.range m).map o) (fun a hm=>by
  obtain ⟨j,hj,rfl⟩:=List.mem_map.1 hm
  exact h2 j (List.mem_range.1 hj)) h3
 simpa using this
theorem ca_P {l:Nat} {z:Nat→Int} {m:Nat} {o:Nat→Int} (h:whoE l z=0) (ha:caE l z m o=0):m≤P66 l z :=
 ca_le (cb_fw h (fun _ _=>rfl)) ha
theorem P_cb {l:Nat} {z:Nat→Int} {k:Nat} {b:Nat→Int} (h:cbE l z k b=0):P66 l z≤k:=by
 have hw:=cb_who h
 have:=ca_le h (ap_ok hw)
 exact this
theorem inc_lt {k:Nat} {b:Nat→Int} (h:∀ j,0<j→j<k→b (j-1)<b j):∀ d i,i+d<k→b i≤b (i+d)
 | 0,i,_=>Int.le_refl _
 | d+1,i,hk=>by
   have:=inc_lt h d i (by omega)
   have:=h (i+d+1) (by omega) (by omega)
   rw[show i+d+1-1=i+d by omega] at this
   show b i≤b (i+d+1)
   omega
theorem late_le {l:Nat} {z:Nat→Int} {b:Nat→Int} (h:cbE l z (P66 l z) b=0):∀ i,i<P66 l z→b i≤lstO (fwB l z) i:=fun i hi=>by
 have hw:=cb_who h
 obtain ⟨_,_,hinc,hdo⟩:=cb_spec h
 obtain ⟨hp1,hp2⟩:=fw_pairs hw
 have hB:=P_B l z
 apply Int.not_lt.1
 intro hc
 have hlen:(fwP z (alL l z)).length=P66 l z:=rfl
 have hlt:∀ i j,(hi:i<(fwB l z).length)→(hj:j<(fwB l z).length)→i<j→(fwB l z)[i]<(fwB l z)[j]:=List.pairwise_iff_getElem.1 (fwB_lt hw)
 have hgb:∀ j,(hj:j<P66 l z)→((fwP z (alL l z))[j]'(by omega)).1=lstO (fwB l z) j:=fun j hj=>by
  rw[lst_el _ j (by omega)]
  show _=((fwP z (alL l z)).map (·.1))[j]'(by simp;omega)
  rw[List.getElem_map]
 obtain ⟨_,_,a3⟩:=fw_spec l z (alL l z) (alL_ok hw)
 have:=pierce_le z (((fwP z (alL l z)).map (·.2)).take (i+1)) ((List.range i).map b) (fun a ha=>by
  obtain ⟨j,hj,rfl⟩:=List.getElem_of_mem ha
  rw[List.getElem_take,List.getElem_map]
  simp at hj
  obtain ⟨⟨o1,o2,_⟩,e2⟩:=hp2 _ (List.getElem_mem (show j<(fwP z (alL l z)).length by omega))
  have e1:=hgb j (by omega)
  generalize (fwP z (alL l z))[j]=p at *
  obtain ⟨q,hq,e⟩:=hdo p.2.toNat (by omega)
  rw[Int.toNat_of_nonneg o1] at e
  refine ⟨b q,rg_mem ?_,e⟩
  rw[pB_iff] at e
  apply Nat.not_le.1
  intro hqi
  have h5:=inc_lt hinc (q-i) i (by omega)
  rw[show i+(q-i)=q by omega] at h5
  have h6:lstO (fwB l z) j≤lstO (fwB l z) i:=by
   rw[lst_el _ j (by omega),lst_el _ i (by omega)]
   by_cases e:j=i
   · subst e;exact Int.le_refl _
   · exact Int.le_of_lt (hlt j i (by omega) (by omega) (by omega))
  omega) (List.Pairwise.sublist (List.take_sublist _ _) a3)
 simp at this
 omega
end Go.Eng
end
section
namespace Go.Eng
open Go.Proofs
set_option linter.unusedVariables false
set_option linter.unusedSimpArgs false
set_option maxRecDepth 100000
noncomputable def ct8 (L A B:AV) (R S:AV→Int) (C D:AV→Prop) (e f:Int):Ctr:=ctG (ctG (ctG (ctG (ctG (ctG (tX (tX noCt 32 [L] (.tup [A,.int .i64 e])) 23 [L] (.tup [B,.int .i64 e])) 33 (gR L R C)) 34 (gR L R C)) 29 (gR L S D)) 30 (gR L S D)) 21 (gO L (.int .i64 f))) 15 g15
noncomputable def fr8 (k p:Nat) (b x:Nat→Int) (i:Int):Frm:=[(1,sl1 k b false),(7,sl1 p x true),(13,.int .i64 i)]
theorem t8 (n k p:Nat) (b x:Nat→Int) (H:Heap) (i:Int):execT (cxD (n+1) 8 150) (il noCt n 1) noBT noRT (part Tryz.f8 [1,1,1,1,1,1,1,1,1,1,0,1,0,0]) (hints (fr8 k p b x i)) (lvE::H) =
 (fun (Z0:HFrm)=>Tr.ite (ltI i (Int.ofNat p)) (Tr.ite (eqI (Int.ofNat k) (Int.ofNat p)) (Tr.req (inI i k) (Tr.req (ltN (idO 0 i 1) k) (Tr.req (inI i p) (Tr.req (ltN (idO 0 i 1) p) (Tr.ite (ltI (x (idO 0 i 1)) (b (idO 0 i 1))) (Tr.ok (Ex.ret,[(6,AV.bool false,some 1)],lvE::H)) (Tr.ok (Ex.normal,[(1,AV.slcT none (Row.M [Seg.arr .i64 b k]) 1 k false,none),(7,AV.slcT none (Row.M [Seg.arr .i64 x p]) 1 p true,none),(13,AV.int .i64 (addI .i64 i (Int.ofNat 1)),none)],lvE::H))))))) (Tr.ok (Ex.exit 0,Z0,lvE::H))) (Tr.ok (Ex.exit 0,Z0,lvE::H))) [(1,AV.slcT none (Row.M [Seg.arr .i64 b k]) 1 k false,none),(7,AV.slcT none (Row.M [Seg.arr .i64 x p]) 1 p true,none),(13,AV.int .i64 i,none),(137,AV.bool false,some 1)]:=by kernel_rfl
theorem u8 (n l k m p:Nat) (z b o a x:Nat→Int) (R S:AV→Int) (C D:AV→Prop) (H:Heap) (i:Int):bodyT Tryz.prog (cd (n+2)) 100000 8 Tryz.f8 (KtB.kt 8) (il (ct8 (slA 5 l z) (sl1 p a false) (sl1 p x true) R S C D 0 0) n 2) (blkE noBT 0 (fr8 k p b x 0) (lvE::H) (.ok (.normal,hints (fr8 k p b x i++[(137,.bool false)]),lvE::H))) noRT [(slA 5 l z,none),(sl1 k b false,none),(sl1 m o false,none)] H =
 Tr.ite (notB (ltI (Int.ofNat 20) (Int.ofNat l))) (Tr.reqP (slA 5 l z=slA 5 l z) (Tr.ite (notB (eqI (Int.ofNat 0) (Int.ofNat 0))) (Tr.reqP True (Tr.ok ((AV.bool true,none),H))) (Tr.ite (ltI (Int.ofNat 20) (Int.ofNat k)) (Tr.reqP True (Tr.ok ((AV.bool true,none),H))) (Tr.ite (ltI (Int.ofNat 20) (Int.ofNat m)) (Tr.reqP True (Tr.ok ((AV.bool true,none),H))) (Tr.reqP ([slA 5 l z]=[slA 5 l z]) (Tr.reqP ([slA 5 l z]=[slA 5 l z]) (Tr.reqP (slA 5 l z=slA 5 l z∧D (AV.slcT none (Row.M [Seg.arr .i64 b k]) 1 k false)) (Tr.reqP (slA 5 l z=slA 5 l z∧C (AV.slcT none (Row.M [Seg.arr .i64 o m]) 1 m false)) (Tr.ite (notB (eqI (Int.ofNat 0) (Int.ofNat 0))) (Tr.ok ((AV.bool false,some 1),H)) (Tr.ite (notB (eqI (Int.ofNat 0) (Int.ofNat 0))) (Tr.ite (eqI (Int.ofNat 0) (Int.ofNat 22)) (Tr.ite (eqI (Int.ofNat p) (Int.ofNat 0)) (Tr.ite (eqI (Int.ofNat p) (Int.ofNat 0)) (Tr.ite (notB (eqI (S (AV.slcT none (Row.M [Seg.arr .i64 b k]) 1 k false)) (Int.ofNat 0))) (Tr.reqP True (Tr.ok ((AV.bool true,none),H))) (Tr.ok ((AV.bool false,some 1),H))) (Tr.ok ((AV.bool false,some 1),H))) (Tr.ok ((AV.bool false,some 1),H))) (Tr.ok ((AV.bool false,some 1),H))) (Tr.reqP (slA 5 l z=slA 5 l z∧D (AV.slcT none (Row.M [Seg.arr .i64 x p]) 1 p true)) (Tr.ite (notB (eqI (S (AV.slcT none (Row.M [Seg.arr .i64 x p]) 1 p true)) (Int.ofNat 0))) (Tr.ok ((AV.bool false,some 1),H)) (Tr.reqP (slA 5 l z=slA 5 l z∧D (AV.slcT none (Row.M [Seg.arr .i64 x p]) 1 p true)) (Tr.ite (notB (eqI (S (AV.slcT none (Row.M [Seg.arr .i64 x p]) 1 p true)) (Int.ofNat 0))) (Tr.ok ((AV.bool false,some 1),H)) (Tr.reqP (slA 5 l z=slA 5 l z∧C (AV.slcT none (Row.M [Seg.arr .i64 a p]) 1 p false)) (Tr.ite (notB (eqI (R (AV.slcT none (Row.M [Seg.arr .i64 a p]) 1 p false)) (Int.ofNat 0))) (Tr.ok ((AV.bool false,some 1),H)) (Tr.reqP (slA 5 l z=slA 5 l z∧C (AV.slcT none (Row.M [Seg.arr .i64 a p]) 1 p false)) (Tr.ite (notB (eqI (R (AV.slcT none (Row.M [Seg.arr .i64 a p]) 1 p false)) (Int.ofNat 0))) (Tr.ok ((AV.bool false,some 1),H)) (Tr.ite (notB (eqI (Int.ofNat p) (Int.ofNat p))) (Tr.ok ((AV.bool false,some 1),H)) (Tr.ite (eqI (R (AV.slcT none (Row.M [Seg.arr .i64 o m]) 1 m false)) (Int.ofNat 0)) (Tr.ite (ltI (Int.ofNat p) (Int.ofNat m)) (Tr.ok ((AV.bool false,some 1),H)) (Tr.ite (notB (eqI (S (AV.slcT none (Row.M [Seg.arr .i64 b k]) 1 k false)) (Int.ofNat 0))) (Tr.reqP True (Tr.ok ((AV.bool true,none),H))) (Tr.ite (ltI (Int.ofNat k) (Int.ofNat p)) (Tr.ok ((AV.bool false,some 1),H)) (Tr.ite (eqI (R (AV.slcT none (Row.M [Seg.arr .i64 o m]) 1 m false)) (Int.ofNat 0)) (Tr.ite (ltI (Int.ofNat k) (Int.ofNat m)) (Tr.ok ((AV.bool false,some 1),H)) (Tr.reqP ([(1,AV.slcT none (Row.M [Seg.arr .i64 b k]) 1 k false),(7,AV.slcT none (Row.M [Seg.arr .i64 x p]) 1 p true),(13,AV.int .i64 (Int.ofNat 0))]=[(1,AV.slcT none (Row.M [Seg.arr .i64 b k]) 1 k false),(7,AV.slcT none (Row.M [Seg.arr .i64 x p]) 1 p true),(13,AV.int .i64 (Int.ofNat 0))]∧lvE::H=lvE::H) (Tr.reqP True (Tr.ok ((AV.bool true,none),H))))) (Tr.reqP ([(1,AV.slcT none (Row.M [Seg.arr .i64 b k]) 1 k false),(7,AV.slcT none (Row.M [Seg.arr .i64 x p]) 1 p true),(13,AV.int .i64 (Int.ofNat 0))]=[(1,AV.slcT none (Row.M [Seg.arr .i64 b k]) 1 k false),(7,AV.slcT none (Row.M [Seg.arr .i64 x p]) 1 p true),(13,AV.int .i64 (Int.ofNat 0))]∧lvE::H=lvE::H) (Tr.reqP True (Tr.ok ((AV.bool true,none),H)))))))) (Tr.ite (notB (eqI (S (AV.slcT none (Row.M [Seg.arr .i64 b k]) 1 k false)) (Int.ofNat 0))) (Tr.reqP True (Tr.ok ((AV.bool true,none),H))) (Tr.ite (ltI (Int.ofNat k) (Int.ofNat p)) (Tr.ok ((AV.bool false,some 1),H)) (Tr.ite (eqI (R (AV.slcT none (Row.M [Seg.arr .i64 o m]) 1 m false)) (Int.ofNat 0)) (Tr.ite (ltI (Int.ofNat k) (Int.ofNat m)) (Tr.ok ((AV.bool false,some 1),H)) (Tr.reqP ([(1,AV.slcT none (Row.M [Seg.arr .i64 b k]) 1 k false),(7,AV.slcT none (Row.M [Seg.arr .i64 x p]) 1 p true),(13,AV.int .i64 (Int.ofNat 0))]=[(1,AV.slcT none (Row.M [Seg.arr .i64 b k]) 1 k false),(7,AV.slcT none (Row.M [Seg.arr .i64 x p]) 1 p true),(13,AV.int .i64 (Int.ofNat 0))]∧lvE::H=lvE::H) (Tr.reqP True (Tr.ok ((AV.bool true,none),H))))) (Tr.reqP ([(1,AV.slcT none (Row.M [Seg.arr .i64 b k]) 1 k false),(7,AV.slcT none (Row.M [Seg.arr .i64 x p]) 1 p true),(13,AV.int .i64 (Int.ofNat 0))]=[(1,AV.slcT none (Row.M [Seg.arr .i64 b k]) 1 k false),(7,AV.slcT none (Row.M [Seg.arr .i64 x p]) 1 p true),(13,AV.int .i64 (Int.ofNat 0))]∧lvE::H=lvE::H) (Tr.reqP True (Tr.ok ((AV.bool true,none),H))))))))))))))))))))))))))) (Tr.reqP True (Tr.ok ((AV.bool true,none),H))):=by kernel_rfl
theorem u8s (n l k m p:Nat) (z b o a x:Nat→Int) (R S:AV→Int) (C D:AV→Prop) (H:Heap):bodyT Tryz.prog (cd (n+2)) 100000 8 Tryz.f8 (KtB.kt 8) (il (ct8 (slA 5 l z) (sl1 p a false) (sl1 p x true) R S C D 0 0) n 2) (stopB noBT 0) noRT [(slA 5 l z,none),(sl1 k b false,none),(sl1 m o false,none)] H =
 Tr.ite (notB (ltI (Int.ofNat 20) (Int.ofNat l))) (Tr.reqP (slA 5 l z=slA 5 l z) (Tr.ite (notB (eqI (Int.ofNat 0) (Int.ofNat 0))) (Tr.reqP True (Tr.ok ((AV.bool true,none),H))) (Tr.ite (ltI (Int.ofNat 20) (Int.ofNat k)) (Tr.reqP True (Tr.ok ((AV.bool true,none),H))) (Tr.ite (ltI (Int.ofNat 20) (Int.ofNat m)) (Tr.reqP True (Tr.ok ((AV.bool true,none),H))) (Tr.reqP ([slA 5 l z]=[slA 5 l z]) (Tr.reqP ([slA 5 l z]=[slA 5 l z]) (Tr.reqP (slA 5 l z=slA 5 l z∧D (AV.slcT none (Row.M [Seg.arr .i64 b k]) 1 k false)) (Tr.reqP (slA 5 l z=slA 5 l z∧C (AV.slcT none (Row.M [Seg.arr .i64 o m]) 1 m false)) (Tr.ite (notB (eqI (Int.ofNat 0) (Int.ofNat 0))) (Tr.ok ((AV.bool false,some 1),H)) (Tr.ite (notB (eqI (Int.ofNat 0) (Int.ofNat 0))) (Tr.ite (eqI (Int.ofNat 0) (Int.ofNat 22)) (Tr.ite (eqI (Int.ofNat p) (Int.ofNat 0)) (Tr.ite (eqI (Int.ofNat p) (Int.ofNat 0)) (Tr.ite (notB (eqI (S (AV.slcT none (Row.M [Seg.arr .i64 b k]) 1 k false)) (Int.ofNat 0))) (Tr.reqP True (Tr.ok ((AV.bool true,none),H))) (Tr.ok ((AV.bool false,some 1),H))) (Tr.ok ((AV.bool false,some 1),H))) (Tr.ok ((AV.bool false,some 1),H))) (Tr.ok ((AV.bool false,some 1),H))) (Tr.reqP (slA 5 l z=slA 5 l z∧D (AV.slcT none (Row.M [Seg.arr .i64 x p]) 1 p true)) (Tr.ite (notB (eqI (S (AV.slcT none (Row.M [Seg.arr .i64 x p]) 1 p true)) (Int.ofNat 0))) (Tr.ok ((AV.bool false,some 1),H)) (Tr.reqP (slA 5 l z=slA 5 l z∧D (AV.slcT none (Row.M [Seg.arr .i64 x p]) 1 p true)) (Tr.ite (notB (eqI (S (AV.slcT none (Row.M [Seg.arr .i64 x p]) 1 p true)) (Int.ofNat 0))) (Tr.ok ((AV.bool false,some 1),H)) (Tr.reqP (slA 5 l z=slA 5 l z∧C (AV.slcT none (Row.M [Seg.arr .i64 a p]) 1 p false)) (Tr.ite (notB (eqI (R (AV.slcT none (Row.M [Seg.arr .i64 a p]) 1 p false)) (Int.ofNat 0))) (Tr.ok ((AV.bool false,some 1),H)) (Tr.reqP (slA 5 l z=slA 5 l z∧C (AV.slcT none (Row.M [Seg.arr .i64 a p]) 1 p false)) (Tr.ite (notB (eqI (R (AV.slcT none (Row.M [Seg.arr .i64 a p]) 1 p false)) (Int.ofNat 0))) (Tr.ok ((AV.bool false,some 1),H)) (Tr.ite (notB (eqI (Int.ofNat p) (Int.ofNat p))) (Tr.ok ((AV.bool false,some 1),H)) (Tr.ite (eqI (R (AV.slcT none (Row.M [Seg.arr .i64 o m]) 1 m false)) (Int.ofNat 0)) (Tr.ite (ltI (Int.ofNat p) (Int.ofNat m)) (Tr.ok ((AV.bool false,some 1),H)) (Tr.ite (notB (eqI (S (AV.slcT none (Row.M [Seg.arr .i64 b k]) 1 k false)) (Int.ofNat 0))) (Tr.reqP True (Tr.ok ((AV.bool true,none),H))) (Tr.ite (ltI (Int.ofNat k) (Int.ofNat p)) (Tr.ok ((AV.bool false,some 1),H)) (Tr.ite (eqI (R (AV.slcT none (Row.M [Seg.arr .i64 o m]) 1 m false)) (Int.ofNat 0)) (Tr.ite (ltI (Int.ofNat k) (Int.ofNat m)) (Tr.ok ((AV.bool false,some 1),H)) Tr.bad) Tr.bad)))) (Tr.ite (notB (eqI (S (AV.slcT none (Row.M [Seg.arr .i64 b k]) 1 k false)) (Int.ofNat 0))) (Tr.reqP True (Tr.ok ((AV.bool true,none),H))) (Tr.ite (ltI (Int.ofNat k) (Int.ofNat p)) (Tr.ok ((AV.bool false,some 1),H)) (Tr.ite (eqI (R (AV.slcT none (Row.M [Seg.arr .i64 o m]) 1 m false)) (Int.ofNat 0)) (Tr.ite (ltI (Int.ofNat k) (Int.ofNat m)) (Tr.ok ((AV.bool false,some 1),H)) Tr.bad) Tr.bad))))))))))))))))))))))) (Tr.reqP True (Tr.ok ((AV.bool true,none),H))):=by kernel_rfl
theorem u8e (n l k m:Nat) (z b o:Nat→Int) (R S:AV→Int) (C D:AV→Prop) (H:Heap) (e:Int):bodyT Tryz.prog (cd (n+2)) 100000 8 Tryz.f8 (KtB.kt 8) (il (ct8 (slA 5 l z) .nils .nils R S C D e 0) n 2) (stopB noBT 0) noRT [(slA 5 l z,none),(sl1 k b false,none),(sl1 m o false,none)] H =
 Tr.ite (notB (ltI (Int.ofNat 20) (Int.ofNat l))) (Tr.reqP (slA 5 l z=slA 5 l z) (Tr.ite (notB (eqI (Int.ofNat 0) (Int.ofNat 0))) (Tr.reqP True (Tr.ok ((AV.bool true,none),H))) (Tr.ite (ltI (Int.ofNat 20) (Int.ofNat k)) (Tr.reqP True (Tr.ok ((AV.bool true,none),H))) (Tr.ite (ltI (Int.ofNat 20) (Int.ofNat m)) (Tr.reqP True (Tr.ok ((AV.bool true,none),H))) (Tr.reqP ([slA 5 l z]=[slA 5 l z]) (Tr.reqP ([slA 5 l z]=[slA 5 l z]) (Tr.reqP (slA 5 l z=slA 5 l z∧D (AV.slcT none (Row.M [Seg.arr .i64 b k]) 1 k false)) (Tr.reqP (slA 5 l z=slA 5 l z∧C (AV.slcT none (Row.M [Seg.arr .i64 o m]) 1 m false)) (Tr.ite (notB (eqI e e)) (Tr.ok ((AV.bool false,some 1),H)) (Tr.ite (notB (eqI e (Int.ofNat 0))) (Tr.ite (eqI e (Int.ofNat 22)) (Tr.ite (notB (eqI (S (AV.slcT none (Row.M [Seg.arr .i64 b k]) 1 k false)) (Int.ofNat 0))) (Tr.reqP True (Tr.ok ((AV.bool true,none),H))) (Tr.ok ((AV.bool false,some 1),H))) (Tr.ok ((AV.bool false,some 1),H))) (Tr.reqP (slA 5 l z=slA 5 l z∧D AV.nils) (Tr.ite (notB (eqI (S AV.nils) (Int.ofNat 0))) (Tr.ok ((AV.bool false,some 1),H)) (Tr.reqP (slA 5 l z=slA 5 l z∧D AV.nils) (Tr.ite (notB (eqI (S AV.nils) (Int.ofNat 0))) (Tr.ok ((AV.bool false,some 1),H)) (Tr.reqP (slA 5 l z=slA 5 l z∧C AV.nils) (Tr.ite (notB (eqI (R AV.nils) (Int.ofNat 0))) (Tr.ok ((AV.bool false,some 1),H)) (Tr.reqP (slA 5 l z=slA 5 l z∧C AV.nils) (Tr.ite (notB (eqI (R AV.nils) (Int.ofNat 0))) (Tr.ok ((AV.bool false,some 1),H)) (Tr.ite (eqI (R (AV.slcT none (Row.M [Seg.arr .i64 o m]) 1 m false)) (Int.ofNat 0)) (Tr.ite (ltI (Int.ofNat 0) (Int.ofNat m)) (Tr.ok ((AV.bool false,some 1),H)) (Tr.ite (notB (eqI (S (AV.slcT none (Row.M [Seg.arr .i64 b k]) 1 k false)) (Int.ofNat 0))) (Tr.reqP True (Tr.ok ((AV.bool true,none),H))) (Tr.ite (ltI (Int.ofNat k) (Int.ofNat 0)) (Tr.ok ((AV.bool false,some 1),H)) (Tr.ite (eqI (R (AV.slcT none (Row.M [Seg.arr .i64 o m]) 1 m false)) (Int.ofNat 0)) (Tr.ite (ltI (Int.ofNat k) (Int.ofNat m)) (Tr.ok ((AV.bool false,some 1),H)) Tr.bad) Tr.bad)))) (Tr.ite (notB (eqI (S (AV.slcT none (Row.M [Seg.arr .i64 b k]) 1 k false)) (Int.ofNat 0))) (Tr.reqP True (Tr.ok ((AV.bool true,none),H))) (Tr.ite (ltI (Int.ofNat k) (Int.ofNat 0)) (Tr.ok ((AV.bool false,some 1),H)) (Tr.ite (eqI (R (AV.slcT none (Row.M [Seg.arr .i64 o m]) 1 m false)) (Int.ofNat 0)) (Tr.ite (ltI (Int.ofNat k) (Int.ofNat m)) (Tr.ok ((AV.bool false,some 1),H)) Tr.bad) Tr.bad)))))))))))))))))))))) (Tr.reqP True (Tr.ok ((AV.bool true,none),H))):=by kernel_rfl
theorem u8w (n l k m:Nat) (z b o:Nat→Int) (H:Heap) (f:Int):bodyT Tryz.prog (cd (n+2)) 100000 8 Tryz.f8 (KtB.kt 8) (il (ctG (ctG (ctG noCt 23 (fun _=>none)) 21 (gO (slA 5 l z) (.int .i64 f))) 15 g15) n 2) (stopB noBT 0) noRT [(slA 5 l z,none),(sl1 k b false,none),(sl1 m o false,none)] H =
 Tr.ite (notB (ltI (Int.ofNat 20) (Int.ofNat l))) (Tr.reqP (slA 5 l z=slA 5 l z) (Tr.ite (notB (eqI f (Int.ofNat 0))) (Tr.reqP True (Tr.ok ((AV.bool true,none),H))) (Tr.ite (ltI (Int.ofNat 20) (Int.ofNat k)) (Tr.reqP True (Tr.ok ((AV.bool true,none),H))) (Tr.ite (ltI (Int.ofNat 20) (Int.ofNat m)) (Tr.reqP True (Tr.ok ((AV.bool true,none),H))) Tr.bad)))) (Tr.reqP True (Tr.ok ((AV.bool true,none),H))):=by kernel_rfl
theorem b8:∀ b,(0,b) ∈ blocksOf (bodyOf Tryz.f8)→b=.loop (part Tryz.f8 [1,1,1,1,1,1,1,1,1,1,0,1,0,0]):=by
 have:((blocksOf (bodyOf Tryz.f8)).filter fun x=>Nat.beq x.1 0)=[(0,.loop (part Tryz.f8 [1,1,1,1,1,1,1,1,1,1,0,1,0,0]))]:=by kernel_rfl
 intro b hb
 have hm:(0,b) ∈ ((blocksOf (bodyOf Tryz.f8)).filter fun x=>Nat.beq x.1 0):=List.mem_filter.2 ⟨hb,rfl⟩
 rw[this] at hm;simpa using hm
def isCb (B:AV):Prop:=∃ k b full,B=sl1 k b full
noncomputable def rCb (l:Nat) (z:Nat→Int) (B:AV):Int:=open Classical in if h:∃ k b full,B=sl1 k b full then cbE l z h.choose h.choose_spec.choose else 0
section
variable (n l k m p:Nat) (z b x o:Nat→Int) (full:Bool) (H:Heap)
theorem c29r (B:AV) (h:isCb B):cd (n+11) (.fn 29) [slA 5 l z,B] H=some (.int .i64 (rCb l z B),H):=by
 have h':∃ k b full,B=sl1 k b full:=h
 have e:=h'.choose_spec.choose_spec.choose_spec
 have e3:rCb l z B=cbE l z h'.choose h'.choose_spec.choose:=by unfold rCb;rw[dif_pos h']
 rw[e3]
 conv=>lhs;rw[e]
 exact c29 n l _ z _ _ H
theorem c30r (B:AV) (h:isCb B):cd (n+6) (.fn 30) [slA 5 l z,B] H=some (.int .i64 (rCb l z B),H):=by
 have h':∃ k b full,B=sl1 k b full:=h
 have e:=h'.choose_spec.choose_spec.choose_spec
 have e3:rCb l z B=cbE l z h'.choose h'.choose_spec.choose:=by unfold rCb;rw[dif_pos h']
 rw[e3]
 conv=>lhs;rw[e]
 exact c30 n l _ z _ _ H
theorem rCb_eq:rCb l z (sl1 k b full)=cbE l z k b:=by
 have h1:=c30r 0 l z [] (sl1 k b full) ⟨k,b,full,rfl⟩
 have h2:=c30 0 l k z b full []
 rw[h1] at h2
 simpa using h2
theorem l8 (hp:p≤1000) (h:k=p→∀ i,i<p→b i≤x i):exec (cxD (n+1) 8 150) (.block 0 (.loop (part Tryz.f8 [1,1,1,1,1,1,1,1,1,1,0,1,0,0]))) (fr8 k p b x 0) (lvE::H)=some (.normal,fr8 k p b x (if k=p then p else 0:Nat)++[(137,.bool false)],lvE::H):=by
 refine forX 0 (fun j=>fr8 k p b x (j:Int)) (fun _=>lvE::H) (if k=p then p else 0) (fr8 k p b x (if k=p then p else 0:Nat)++[(137,.bool false)],lvE::H) (by split<;>omega) (fun j hj=>?_) ?_
 · have e:k=p:=by
    apply Decidable.byContradiction;intro hc
    rw[if_neg hc] at hj;omega
   subst e
   rw[if_pos rfl] at hj
   have hb:=h rfl j hj
   refine ex_all (t8 n k k b x H (j:Int)) (il_no n 1) (noBT_ok _ _) (noRT_ok _ _) ?_
   rw[cs64 (by omega),id1]
   repeat' first | (refine Tr.all_ite (fun hc=>?_) (fun hc=>?_)<;>(try simp (disch:=omega) only[nV,nW] at hc)<;>try omega) | (refine Tr.all_req ?_ ?_;· (try simp (disch:=omega) only[nV,nW]);try omega) | (refine Tr.all_reqP ?_ ?_;· first | exact trivial | rfl | exact ⟨rfl,rfl⟩ | exact ⟨rfl,rfl,rfl⟩ | (simp (disch:=omega) only[nV,nW];done) | ((try simp (disch:=omega) only[nV,nW]);omega)) | fail
   all_goals first
    | exact Tr.all_ok ⟨rfl,rfl⟩
    | fail
 · obtain ⟨x,h1,rfl⟩:=ex_all (Q:=fun y=>y=(.exit 0,fr8 k p b x (if k=p then p else 0:Nat)++[(137,.bool false)],lvE::H)) (t8 n k p b x H ((if k=p then p else 0:Nat):Int)) (il_no n 1) (noBT_ok _ _) (noRT_ok _ _) (by
    by_cases e:k=p
    · rw[if_pos e]
      repeat' first | (refine Tr.all_ite (fun hc=>?_) (fun hc=>?_)<;>(try simp (disch:=omega) only[nV,nW] at hc)<;>try omega) | (refine Tr.all_req ?_ ?_;· (try simp (disch:=omega) only[nV,nW]);try omega) | (refine Tr.all_reqP ?_ ?_;· first | exact trivial | rfl | exact ⟨rfl,rfl⟩ | exact ⟨rfl,rfl,rfl⟩ | (simp (disch:=omega) only[nV,nW];done) | ((try simp (disch:=omega) only[nV,nW]);omega)) | fail
      all_goals first
       | exact Tr.all_ok rfl
       | fail
    · rw[if_neg e]
      repeat' first | (refine Tr.all_ite (fun hc=>?_) (fun hc=>?_)<;>(try simp (disch:=omega) only[nV,nW] at hc)<;>try omega) | (refine Tr.all_req ?_ ?_;· (try simp (disch:=omega) only[nV,nW]);try omega) | (refine Tr.all_reqP ?_ ?_;· first | exact trivial | rfl | exact ⟨rfl,rfl⟩ | exact ⟨rfl,rfl,rfl⟩ | (simp (disch:=omega) only[nV,nW];done) | ((try simp (disch:=omega) only[nV,nW]);omega)) | fail
      all_goals first
       | exact Tr.all_ok rfl
       | fail)
   exact h1
theorem c8o (a:Nat→Int) (R S:AV→Int) (hk:k≤20) (hm:m≤20) (hl:1≤l) (hl2:l≤14) (hP:p≤1000) (hO:isAp (sl1 m o false)) (hB:isCb (sl1 k b false)) (hA:isAp (sl1 p a false)) (hX:isCb (sl1 p x true)) (eA:R (sl1 p a false)=0) (eX:S (sl1 p x true)=0) (f1:R (sl1 m o false)=0→m≤p) (f2:S (sl1 k b false)=0→p≤k) (f3:S (sl1 k b false)=0→k=p→∀ i,i<p→b i≤x i)
 (h21:∀ q H,cd (n+14+q) (.fn 21) [slA 5 l z] H=some (.int .i64 0,H)) (h32:∀ q H,cd (n+14+q) (.fn 32) [slA 5 l z] H=some (.tup [sl1 p a false,.int .i64 0],H)) (h23:∀ q H,cd (n+14+q) (.fn 23) [slA 5 l z] H=some (.tup [sl1 p x true,.int .i64 0],H))
 (h33:∀ q B H,isAp B→cd (n+14+q) (.fn 33) [slA 5 l z,B] H=some (.int .i64 (R B),H)) (h34:∀ q B H,isAp B→cd (n+14+q) (.fn 34) [slA 5 l z,B] H=some (.int .i64 (R B),H)) (h29:∀ q B H,isCb B→cd (n+14+q) (.fn 29) [slA 5 l z,B] H=some (.int .i64 (S B),H)) (h30:∀ q B H,isCb B→cd (n+14+q) (.fn 30) [slA 5 l z,B] H=some (.int .i64 (S B),H)) :
 cd (n+17) (.fn 8) [slA 5 l z,sl1 k b false,sl1 m o false] H=some (.bool true,H):=by
 have e00:eqI (Int.ofNat 0) (Int.ofNat 0)=true:=by rw[eqI_eq];rfl
 by_cases hc:S (sl1 k b false)=0
 · obtain ⟨N,hx⟩:∃ N:Nat,exec (cxD (n+15+1) 8 150) (.block 0 (.loop (part Tryz.f8 [1,1,1,1,1,1,1,1,1,1,0,1,0,0]))) (fr8 k p b x 0) (lvE::H)=some (.normal,fr8 k p b x N++[(137,.bool false)],lvE::H):=⟨_,l8 (n+15) k p b x H hP (f3 hc)⟩
   have f2:=f2 hc
   refine fn_all (n:=n+14+2) Tryz.func8 rfl rfl rfl (u8 (n+14) l k m p z b o a x R S isAp isCb H (N:Int)) (il_ok _ (n+14) 2 (fun q=>ctW (by omega) (ctV1 (gR_ok (gR_ok (gR_ok (gR_ok (tX_ok (tX_ok (noCt_ok _) (h32 q)) (h23 q)) (h33 q)) (h34 q)) (h29 q)) (h30 q)) (h21 q)))) (blkE_ok (noBT_ok _ _) b8 (fun x hz=>by rw[← Tr.ok_some hz];simp only[Res.st,hints_eq];exact hx)) (noRT_ok _ _) ?_
   clear hx f3 h21 h32 h23 h33 h34 h29 h30
   have f1:R (AV.slcT none (Row.M [Seg.arr .i64 o m]) 1 m false)=0→m≤p:=f1
   rw[show (slA 5 l z=slA 5 l z∧isCb (AV.slcT none (Row.M [Seg.arr .i64 b k]) 1 k false))=True from eq_true ⟨rfl,hB⟩,show (slA 5 l z=slA 5 l z∧isAp (AV.slcT none (Row.M [Seg.arr .i64 o m]) 1 m false))=True from eq_true ⟨rfl,hO⟩,show (slA 5 l z=slA 5 l z∧isCb (AV.slcT none (Row.M [Seg.arr .i64 x p]) 1 p true))=True from eq_true ⟨rfl,hX⟩,show (slA 5 l z=slA 5 l z∧isAp (AV.slcT none (Row.M [Seg.arr .i64 a p]) 1 p false))=True from eq_true ⟨rfl,hA⟩,show R (AV.slcT none (Row.M [Seg.arr .i64 a p]) 1 p false)=0 from eA,show S (AV.slcT none (Row.M [Seg.arr .i64 x p]) 1 p true)=0 from eX,show S (AV.slcT none (Row.M [Seg.arr .i64 b k]) 1 k false)=0 from hc]
   have e0:eqI 0 (Int.ofNat 0)=true:=e00
   rw[e00,e0]
   generalize R (AV.slcT none (Row.M [Seg.arr .i64 o m]) 1 m false)=r at *
   clear eA eX hO hB hA hX hc
   repeat' first | (refine Tr.all_ite (fun hc=>?_) (fun hc=>?_)<;>(try simp (disch:=omega) only[nV,nW] at hc)<;>try omega) | (refine Tr.all_req ?_ ?_;· (try simp (disch:=omega) only[nV,nW]);try omega) | (refine Tr.all_reqP ?_ ?_;· first | exact trivial | rfl | exact ⟨rfl,rfl⟩ | exact ⟨rfl,rfl,rfl⟩ | (simp (disch:=omega) only[nV,nW];done) | ((try simp (disch:=omega) only[nV,nW]);omega)) | fail
   all_goals first
    | exact Tr.all_ok ⟨rfl,rfl⟩
    | fail
 · refine fn_all (n:=n+14+2) Tryz.func8 rfl rfl rfl (u8s (n+14) l k m p z b o a x R S isAp isCb H) (il_ok _ (n+14) 2 (fun q=>ctW (by omega) (ctV1 (gR_ok (gR_ok (gR_ok (gR_ok (tX_ok (tX_ok (noCt_ok _) (h32 q)) (h23 q)) (h33 q)) (h34 q)) (h29 q)) (h30 q)) (h21 q)))) (stopB_ok (noBT_ok _ _) 0) (noRT_ok _ _) ?_
   clear f3 h21 h32 h23 h33 h34 h29 h30
   have f1:R (AV.slcT none (Row.M [Seg.arr .i64 o m]) 1 m false)=0→m≤p:=f1
   have hc:¬ S (AV.slcT none (Row.M [Seg.arr .i64 b k]) 1 k false)=0:=hc
   rw[show (slA 5 l z=slA 5 l z∧isCb (AV.slcT none (Row.M [Seg.arr .i64 b k]) 1 k false))=True from eq_true ⟨rfl,hB⟩,show (slA 5 l z=slA 5 l z∧isAp (AV.slcT none (Row.M [Seg.arr .i64 o m]) 1 m false))=True from eq_true ⟨rfl,hO⟩,show (slA 5 l z=slA 5 l z∧isCb (AV.slcT none (Row.M [Seg.arr .i64 x p]) 1 p true))=True from eq_true ⟨rfl,hX⟩,show (slA 5 l z=slA 5 l z∧isAp (AV.slcT none (Row.M [Seg.arr .i64 a p]) 1 p false))=True from eq_true ⟨rfl,hA⟩,show R (AV.slcT none (Row.M [Seg.arr .i64 a p]) 1 p false)=0 from eA,show S (AV.slcT none (Row.M [Seg.arr .i64 x p]) 1 p true)=0 from eX]
   have e0:eqI 0 (Int.ofNat 0)=true:=e00
   rw[e00,e0]
   generalize R (AV.slcT none (Row.M [Seg.arr .i64 o m]) 1 m false)=r at *
   generalize S (AV.slcT none (Row.M [Seg.arr .i64 b k]) 1 k false)=s at *
   clear eA eX hO hB hA hX f2
   repeat' first | (refine Tr.all_ite (fun hc=>?_) (fun hc=>?_)<;>(try simp (disch:=omega) only[nV,nW] at hc)<;>try omega) | (refine Tr.all_req ?_ ?_;· (try simp (disch:=omega) only[nV,nW]);try omega) | (refine Tr.all_reqP ?_ ?_;· first | exact trivial | rfl | exact ⟨rfl,rfl⟩ | exact ⟨rfl,rfl,rfl⟩ | (simp (disch:=omega) only[nV,nW];done) | ((try simp (disch:=omega) only[nV,nW]);omega)) | fail
   all_goals first
    | exact Tr.all_ok ⟨rfl,rfl⟩
    | fail
theorem c8e (R S:AV→Int) (hk:k≤20) (hm:m≤20) (hl:1≤l) (hl2:l≤14) (hO:isAp (sl1 m o false)) (hB:isCb (sl1 k b false)) (hne:S (sl1 k b false)≠0)
 (h21:∀ q H,cd (n+14+q) (.fn 21) [slA 5 l z] H=some (.int .i64 0,H)) (h32:∀ q H,cd (n+14+q) (.fn 32) [slA 5 l z] H=some (.tup [.nils,.int .i64 22],H)) (h23:∀ q H,cd (n+14+q) (.fn 23) [slA 5 l z] H=some (.tup [.nils,.int .i64 22],H))
 (h33:∀ q B H,isAp B→cd (n+14+q) (.fn 33) [slA 5 l z,B] H=some (.int .i64 (R B),H)) (h34:∀ q B H,isAp B→cd (n+14+q) (.fn 34) [slA 5 l z,B] H=some (.int .i64 (R B),H)) (h29:∀ q B H,isCb B→cd (n+14+q) (.fn 29) [slA 5 l z,B] H=some (.int .i64 (S B),H)) (h30:∀ q B H,isCb B→cd (n+14+q) (.fn 30) [slA 5 l z,B] H=some (.int .i64 (S B),H)) :
 cd (n+17) (.fn 8) [slA 5 l z,sl1 k b false,sl1 m o false] H=some (.bool true,H):=by
 have e00:eqI (Int.ofNat 0) (Int.ofNat 0)=true:=by rw[eqI_eq];rfl
 have e22:eqI 22 22=true:=by rw[eqI_eq];rfl
 have e220:eqI 22 (Int.ofNat 0)=false:=by rw[eqI_eq];rfl
 have e222:eqI 22 (Int.ofNat 22)=true:=by rw[eqI_eq];rfl
 refine fn_all (n:=n+14+2) Tryz.func8 rfl rfl rfl (u8e (n+14) l k m z b o R S isAp isCb H 22) (il_ok _ (n+14) 2 (fun q=>ctW (by omega) (ctV1 (gR_ok (gR_ok (gR_ok (gR_ok (tX_ok (tX_ok (noCt_ok _) (h32 q)) (h23 q)) (h33 q)) (h34 q)) (h29 q)) (h30 q)) (h21 q)))) (stopB_ok (noBT_ok _ _) 0) (noRT_ok _ _) ?_
 clear h21 h32 h23 h33 h34 h29 h30
 have hne:¬ S (AV.slcT none (Row.M [Seg.arr .i64 b k]) 1 k false)=0:=hne
 rw[show (slA 5 l z=slA 5 l z∧isCb (AV.slcT none (Row.M [Seg.arr .i64 b k]) 1 k false))=True from eq_true ⟨rfl,hB⟩,show (slA 5 l z=slA 5 l z∧isAp (AV.slcT none (Row.M [Seg.arr .i64 o m]) 1 m false))=True from eq_true ⟨rfl,hO⟩]
 rw[e00,e22,e220,e222]
 generalize S (AV.slcT none (Row.M [Seg.arr .i64 b k]) 1 k false)=s at *
 clear hO hB
 repeat' first | (refine Tr.all_ite (fun hc=>?_) (fun hc=>?_)<;>(try simp (disch:=omega) only[nV,nW] at hc)<;>try omega) | (refine Tr.all_req ?_ ?_;· (try simp (disch:=omega) only[nV,nW]);try omega) | (refine Tr.all_reqP ?_ ?_;· first | exact trivial | rfl | exact ⟨rfl,rfl⟩ | exact ⟨rfl,rfl,rfl⟩ | (simp (disch:=omega) only[nV,nW];done) | ((try simp (disch:=omega) only[nV,nW]);omega)) | fail
 all_goals first
  | exact Tr.all_ok ⟨rfl,rfl⟩
  | fail
theorem c8:cd (n+17) (.fn 8) [slA 5 l z,sl1 k b false,sl1 m o false] H=some (.bool true,H):=by
 have h21:∀ q H,cd (n+14+q) (.fn 21) [slA 5 l z] H=some (.int .i64 (chkO l z),H):=fun q H=>by rw[show n+14+q=n+11+q+3 by omega];exact c21 _ l z H
 by_cases hg:¬ chkO l z=0∨20<k∨20<m
 · refine fn_all (n:=n+14+2) Tryz.func8 rfl rfl rfl (u8w (n+14) l k m z b o H (chkO l z)) (il_ok _ (n+14) 2 (fun q=>ctW (by omega) (ctV1 (ctG_ok (noCt_ok _) (fun args p v hg hp H=>by cases hg)) (h21 q)))) (stopB_ok (noBT_ok _ _) 0) (noRT_ok _ _) ?_
   generalize chkO l z=e at *
   repeat' first | (refine Tr.all_ite (fun hc=>?_) (fun hc=>?_)<;>(try simp (disch:=omega) only[nV,nW] at hc)<;>try omega) | (refine Tr.all_req ?_ ?_;· (try simp (disch:=omega) only[nV,nW]);try omega) | (refine Tr.all_reqP ?_ ?_;· first | exact trivial | rfl | exact ⟨rfl,rfl⟩ | exact ⟨rfl,rfl,rfl⟩ | (simp (disch:=omega) only[nV,nW];done) | ((try simp (disch:=omega) only[nV,nW]);omega)) | fail
   all_goals first
    | exact Tr.all_ok ⟨rfl,rfl⟩
    | fail
 have h:chkO l z=0:=by
  apply Decidable.byContradiction;intro hc;exact hg (.inl hc)
 have hk:k≤20:=by omega
 have hm:m≤20:=by omega
 clear hg
 rw[h] at h21
 obtain ⟨hl,_⟩:=chk_odd h
 have h32:∀ q H,cd (n+14+q) (.fn 32) [slA 5 l z] H=some (apPV l z,H):=fun q H=>by rw[show n+14+q=n+1+q+13 by omega];exact c32 _ l z H
 have h23:∀ q H,cd (n+14+q) (.fn 23) [slA 5 l z] H=some (bsPV l z,H):=fun q H=>by rw[show n+14+q=n+1+q+13 by omega];exact c23 _ l z H
 have h33:∀ q B H,isAp B→cd (n+14+q) (.fn 33) [slA 5 l z,B] H=some (.int .i64 (rAp l z B),H):=fun q B H hB=>by rw[show n+14+q=n+1+q+13 by omega];exact c33r _ l z B H hB
 have h34:∀ q B H,isAp B→cd (n+14+q) (.fn 34) [slA 5 l z,B] H=some (.int .i64 (rAp l z B),H):=fun q B H hB=>by rw[show n+14+q=n+10+q+4 by omega];exact c34r _ l z B H hB
 have h29:∀ q B H,isCb B→cd (n+14+q) (.fn 29) [slA 5 l z,B] H=some (.int .i64 (rCb l z B),H):=fun q B H hB=>by rw[show n+14+q=n+3+q+11 by omega];exact c29r _ l z H B hB
 have h30:∀ q B H,isCb B→cd (n+14+q) (.fn 30) [slA 5 l z,B] H=some (.int .i64 (rCb l z B),H):=fun q B H hB=>by rw[show n+14+q=n+8+q+6 by omega];exact c30r _ l z H B hB
 have hO:isAp (sl1 m o false):=⟨m,o,by omega,rfl⟩
 have hB:isCb (sl1 k b false):=⟨k,b,false,rfl⟩
 have eO:rAp l z (sl1 m o false)=caE l z m o:=rAp_eq l m z o (by omega)
 have eB:rCb l z (sl1 k b false)=cbE l z k b:=rCb_eq l k z b false
 have e00:eqI (Int.ofNat 0) (Int.ofNat 0)=true:=by rw[eqI_eq];rfl
 unfold apPV at h32
 by_cases hw:whoE l z=0
 · rw[if_pos hw] at h32
   rw[bsPV_ok hw] at h23
   have hlen:P66 l z≤l:=fw_len l z
   obtain ⟨p,hp⟩:∃ p,P66 l z=p+1:=by
    obtain ⟨k,hk⟩:=fw_ne (z:=z) hl.1
    exact ⟨k,hk⟩
   rw[dA_sl _ p (by rw[srt_len,P_A];exact hp),← hp] at h32
   have hA:isAp (sl1 (P66 l z) (lstO (srtG (fwA l z))) false):=⟨_,_,by omega,rfl⟩
   have hX:isCb (sl1 (P66 l z) (cpZ (fwB l z)) true):=⟨_,_,_,rfl⟩
   have eA:rAp l z (sl1 (P66 l z) (lstO (srtG (fwA l z))) false)=0:=by
    rw[rAp_eq l (P66 l z) z _ (by omega)];exact ap_ok hw
   have eX:rCb l z (sl1 (P66 l z) (cpZ (fwB l z)) true)=0:=by
    rw[rCb_eq];exact cb_fw hw (fun j hj=>cp_at _ j (by rw[P_B];exact hj))
   have f1:caE l z m o=0→m≤P66 l z:=fun e=>ca_P hw e
   have f2:cbE l z k b=0→P66 l z≤k:=fun e=>P_cb e
   have f3:cbE l z k b=0→k=P66 l z→∀ i,i<P66 l z→b i≤cpZ (fwB l z) i:=fun hc e i hi=>by
    rw[cp_at _ i (by rw[P_B];exact hi)]
    exact late_le (by rw[← e];exact hc) i hi
   have hP:P66 l z≤1000:=by omega
   rw[← eO] at f1
   rw[← eB] at f2 f3
   generalize cpZ (fwB l z)=x at *
   generalize lstO (srtG (fwA l z))=a at *
   generalize rAp l z=R at *
   generalize rCb l z=S at *
   generalize P66 l z=P at *
   exact c8o n l k m P z b x o H a R S hk hm hl.1 hl.2 hP hO hB hA hX eA eX f1 f2 f3 h21 h32 h23 h33 h34 h29 h30
 · rw[if_neg hw] at h32
   have e22:whoE l z=22:=by
    unfold whoE at hw ⊢
    rw[if_neg (fun q=>q h)] at hw ⊢
    split
    · rfl
    · rename_i h5;rw[if_neg h5] at hw;exact absurd rfl hw
   have hne:cbE l z k b≠0:=fun e=>hw (cb_who e)
   unfold bsPV at h23
   rw[if_neg hw] at h23
   rw[e22] at h32 h23
   rw[← eB] at hne
   generalize rAp l z=R at *
   generalize rCb l z=S at *
   exact c8e n l k m z b o H R S hk hm hl.1 hl.2 hO hB hne h21 h32 h23 h33 h34 h29 h30
end
end Go.Eng
end
