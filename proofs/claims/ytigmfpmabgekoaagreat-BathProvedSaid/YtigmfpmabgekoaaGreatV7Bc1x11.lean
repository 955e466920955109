/- Bath: whether a list of baths does an order, as it is defined. -/
import Derived.Test.YtigmfpmabgekoaaGreatV7Bb4x3
section
namespace Go.Eng
open Go.Proofs
set_option linter.unusedVariables false
set_option linter.unusedSimpArgs false
set_option maxRecDepth 100000
noncomputable def fr73 (l:Nat) (z:Nat→Int) (B:AV) (i j:Int):Frm:=[(0,slA 5 l z),(1,B),(2,.int .i64 i),(7,.int .i64 j)]
noncomputable def lvO (v k:Nat) (y:Nat→Int):Lvl:=⟨false,[(v,.row (.M [.arr .i64 y k]))]⟩
theorem t73f (n l k:Nat) (z y:Nat→Int) (full:Bool) (H:Heap) (i j:Int):execT (cxD (n+3) 73 21) (il noCt (n+1) 2) noBT noRT (part Tryz.f73 [1,0,1,0,0]) (hints (fr73 l z (sl1 k y full) i j)) (lvE::H) =
 (fun (Z0:HFrm)=>Tr.ite (ltI j (Int.ofNat k)) (Tr.req (inI j k) (Tr.req (ltN (idO 0 j 1) k) (Tr.req (inI i l) (Tr.req (ltN (idO 0 i 5) (mulO l 5)) (Tr.req (ltN (addO (idO 0 i 5) 1) (mulO l 5)) (Tr.req (ltN (addO (idO 0 i 5) 2) (mulO l 5)) (Tr.req (ltN (addO (idO 0 i 5) 3) (mulO l 5)) (Tr.req (ltN (addO (idO 0 i 5) 4) (mulO l 5)) (Tr.ite (leI (subI .i64 (z (addO (idO 0 i 5) 1)) (z (addO (idO 0 i 5) 3))) (y (idO 0 j 1))) (Tr.ite (leI (y (idO 0 j 1)) (subI .i64 (z (idO 0 i 5)) (z (addO (idO 0 i 5) 2)))) (Tr.ok (Ex.ret,[(6,AV.bool true,some 1)],lvE::H)) (Tr.ok (Ex.normal,Z0,lvE::H))) (Tr.ok (Ex.normal,Z0,lvE::H))))))))))) (Tr.ok (Ex.exit 0,[(0,slA 5 l z,none),(1,AV.slcT none (Row.M [Seg.arr .i64 y k]) 1 k full,none),(2,AV.int .i64 i,none),(7,AV.int .i64 j,none),(11,AV.bool false,some 1)],lvE::H))) [(0,slA 5 l z,none),(1,AV.slcT none (Row.M [Seg.arr .i64 y k]) 1 k full,none),(2,AV.int .i64 i,none),(7,AV.int .i64 (addI .i64 j (Int.ofNat 1)),none)]:=by kernel_rfl
theorem u73f (n l k:Nat) (z y:Nat→Int) (full:Bool) (H:Heap) (i:Int) (x:Bool):bodyT Tryz.prog (cd n) 100000 73 Tryz.f73 (KtB.kt 73) (il noCt n 0) (blkE noBT 0 (fr73 l z (sl1 k y full) i 0) (lvE::H) (.ite x (.ok (.ret,[(6,.bool true,none)],lvE::H)) (.ok (.normal,hints (fr73 l z (sl1 k y full) i (Int.ofNat k)++[(11,.bool false)]),lvE::H)))) noRT [(slA 5 l z,none),(sl1 k y full,none),(.int .i64 i,none)] H =
 (fun (Z0:Frm)=>Tr.reqP (Z0=Z0∧lvE::H=lvE::H) (Tr.ite x (Tr.ok ((AV.bool true,none),H)) (Tr.ok ((AV.bool false,some 1),H)))) [(0,slA 5 l z),(1,AV.slcT none (Row.M [Seg.arr .i64 y k]) 1 k full),(2,AV.int .i64 i),(7,AV.int .i64 (Int.ofNat 0))]:=by kernel_rfl
theorem b73:∀ b,(0,b) ∈ blocksOf (bodyOf Tryz.f73)→b=.loop (part Tryz.f73 [1,0,1,0,0]):=by
 have:((blocksOf (bodyOf Tryz.f73)).filter fun x=>Nat.beq x.1 0)=[(0,.loop (part Tryz.f73 [1,0,1,0,0]))]:=by kernel_rfl
 intro b hb
 have hm:(0,b) ∈ ((blocksOf (bodyOf Tryz.f73)).filter fun x=>Nat.beq x.1 0):=List.mem_filter.2 ⟨hb,rfl⟩
 rw[this] at hm;simpa using hm
def dnN (z y:Nat→Int) (k i:Nat):Bool:=exN (fun j=>dnB z (y j) i) k
section
variable (n l k:Nat) (z y:Nat→Int) (H:Heap) (i:Nat)
theorem l73f (full:Bool) (h:chkO l z=0) (hi:i<l) (hk:k≤1000):exec (cxD (n+3) 73 21) (.block 0 (.loop (part Tryz.f73 [1,0,1,0,0]))) (fr73 l z (sl1 k y full) i 0) (lvE::H)=some (cond (dnN z y k i) (.ret,[(6,.bool true)],lvE::H) (.normal,fr73 l z (sl1 k y full) i (Int.ofNat k)++[(11,.bool false)],lvE::H)):=by
 obtain ⟨hl,hb⟩:=chk_odd h
 refine findX 0 (fun j=>fr73 l z (sl1 k y full) i (j:Int)) (fun _=>lvE::H) k (fun j=>dnB z (y j) i) (fun j=>([(6,.bool true)],lvE::H)) (fr73 l z (sl1 k y full) i (Int.ofNat k)++[(11,.bool false)],lvE::H) (by omega) (fun j hj=>?_) ?_
 · have b:=hb i hi
   have ej:addI .i64 (j:Int) (Int.ofNat 1)=((j+1:Nat):Int):=by rw[addI_eq,show Int.ofNat 1=1 from rfl];exact wr_64 (by omega) (by omega)
   have ei:idO 0 (j:Int) 1=j:=by rw[idO_eq];omega
   have e5:idO 0 (i:Int) 5=i*5:=by rw[idO_eq];omega
   have s1:subI .i64 (z (i*5+1)) (z (i*5+3))=bLo z i:=by rw[subI_eq];exact wr_64 (by omega) (by omega)
   have s2:subI .i64 (z (i*5)) (z (i*5+2))=bHi z i:=by rw[subI_eq];exact wr_64 (by omega) (by omega)
   have hd:dnB z (y j) i=(decide (bLo z i≤y j) && decide (y j≤bHi z i)):=rfl
   refine ex_all (t73f n l k z y full H i (j:Int)) (il_no (n+1) 2) (noBT_ok _ _) (noRT_ok _ _) ?_
   show Tr.all _ (fun x=>if dnB z (y j) i=true then _ else _)
   simp only[addO_eq]
   rw[e5,ei,ej,s1,s2,hd]
   clear hd s1 s2
   generalize bLo z i=lo at *
   generalize bHi z i=hi at *
   by_cases h1:lo≤y j
   · by_cases h2:y j≤hi
     · rw[decide_eq_true h1,decide_eq_true h2]
       simp only[Bool.and_self,if_true]
       repeat' first | (refine Tr.all_ite (fun hc=>?_) (fun hc=>?_)<;>(try simp (disch:=omega) only[nV,nW] at hc)<;>try omega) | (refine Tr.all_req ?_ ?_;· (try simp (disch:=omega) only[nV,nW]);try omega) | (refine Tr.all_reqP ?_ ?_;· first | exact trivial | rfl | exact ⟨rfl,rfl⟩ | exact ⟨rfl,rfl,rfl⟩ | (simp (disch:=omega) only[nV,nW];done) | ((try simp (disch:=omega) only[nV,nW]);omega)) | fail
       all_goals first
        | exact Tr.all_ok rfl
        | fail
     · rw[decide_eq_true h1,decide_eq_false h2]
       simp only[Bool.and_false,Bool.false_eq_true,if_false]
       repeat' first | (refine Tr.all_ite (fun hc=>?_) (fun hc=>?_)<;>(try simp (disch:=omega) only[nV,nW] at hc)<;>try omega) | (refine Tr.all_req ?_ ?_;· (try simp (disch:=omega) only[nV,nW]);try omega) | (refine Tr.all_reqP ?_ ?_;· first | exact trivial | rfl | exact ⟨rfl,rfl⟩ | exact ⟨rfl,rfl,rfl⟩ | (simp (disch:=omega) only[nV,nW];done) | ((try simp (disch:=omega) only[nV,nW]);omega)) | fail
       all_goals first
        | exact Tr.all_ok ⟨rfl,rfl⟩
        | fail
   · rw[decide_eq_false h1]
     simp only[Bool.false_and,Bool.false_eq_true,if_false]
     repeat' first | (refine Tr.all_ite (fun hc=>?_) (fun hc=>?_)<;>(try simp (disch:=omega) only[nV,nW] at hc)<;>try omega) | (refine Tr.all_req ?_ ?_;· (try simp (disch:=omega) only[nV,nW]);try omega) | (refine Tr.all_reqP ?_ ?_;· first | exact trivial | rfl | exact ⟨rfl,rfl⟩ | exact ⟨rfl,rfl,rfl⟩ | (simp (disch:=omega) only[nV,nW];done) | ((try simp (disch:=omega) only[nV,nW]);omega)) | fail
     all_goals first
      | exact Tr.all_ok ⟨rfl,rfl⟩
      | fail
 · obtain ⟨x,h1,rfl⟩:=ex_all (Q:=fun x=>x=(.exit 0,fr73 l z (sl1 k y full) i (Int.ofNat k)++[(11,.bool false)],lvE::H)) (t73f n l k z y full H i (Int.ofNat k)) (il_no (n+1) 2) (noBT_ok _ _) (noRT_ok _ _) (by
    refine Tr.all_ite (fun hc=>?_) (fun hc=>Tr.all_ok rfl)
    simp (disch:=omega) only[nV,nW] at hc;omega)
   exact h1
theorem c73f (full:Bool) (h:chkO l z=0) (hi:i<l) (hk:k≤1000):cd (n+4) (.fn 73) [slA 5 l z,sl1 k y full,.int .i64 (i:Int)] (H)=some (.bool (dnN z y k i),H):=by
 have hx:=l73f n l k z y H i full h hi hk
 refine fn_all (n:=n+3) Tryz.func73 rfl rfl rfl (u73f (n+3) l k z y full H i (dnN z y k i)) (il_no0 _) (blkE_ok (noBT_ok _ _) b73 (fun x h1=>by
  refine Eq.trans hx ?_
  rcases Tr.ite_some h1 with ⟨hc,h1⟩ | ⟨hc,h1⟩
  · rw[hc,← Tr.ok_some h1];rfl
  · rw[hc,← Tr.ok_some h1];simp only[cond_false,Res.st,hints_eq])) (noRT_ok _ _) ?_
 refine Tr.all_reqP ⟨rfl,rfl⟩ (Tr.all_ite (fun hc=>Tr.all_ok ⟨?_,rfl⟩) (fun hc=>Tr.all_ok ⟨?_,rfl⟩))
 · rw[hc]
 · rw[hc]
end
end Go.Eng
end
section
namespace Go.Eng
open Go.Proofs
set_option linter.unusedVariables false
set_option linter.unusedSimpArgs false
set_option maxRecDepth 100000
noncomputable def doB (z:Nat→Int) (B:List Int) (i:Nat):Bool:=dnN z (lstO B) B.length i
theorem lst_at (L:List Int) (j:Nat):lstO L j=L.getD j 0:=congrFun (lstO_eq L) j
theorem doB_iff (z:Nat→Int) (B:List Int) (i:Nat):doB z B i=true↔∃ b,b ∈ B∧dnB z b i=true:=by
 unfold doB dnN
 rw[exN_iff]
 constructor
 · rintro ⟨j,h1,h2⟩;exact ⟨_,lst_get B j h1,h2⟩
 · rintro ⟨b,h1,h2⟩
   obtain ⟨j,hj,rfl⟩:=List.getElem_of_mem h1
   refine ⟨j,hj,?_⟩
   rw[lst_at,List.getD_eq_getElem?_getD,List.getElem?_eq_getElem hj]
   exact h2
noncomputable def ndM (z:Nat→Int) (B:List Int) (i:Nat):Int:=if doB z B i=true then 0 else 1
theorem dl_congr {m p:Nat→Int} {j:Nat} (h:∀ i,i<j→(m i=1↔p i=1)):dl m j=dl p j:=by
 induction j with
 | zero=>rfl
 | succ j ih =>
   show (if m j=1 then dl m j++[(j:Int)] else dl m j)=(if p j=1 then dl p j++[(j:Int)] else dl p j)
   rw[ih (fun i hi=>h i (by omega))]
   have:=h j (by omega)
   by_cases e:m j=1
   · rw[if_pos e,if_pos (this.1 e)]
   · rw[if_neg e,if_neg (fun x=>e (this.2 x))]
theorem dl_mem (m:Nat→Int) (j:Nat) (x:Int):x ∈ dl m j↔∃ i:Nat,x=i∧i<j∧m i=1:=by
 induction j with
 | zero=>simp[dl]
 | succ j ih =>
   show x ∈ (if m j=1 then dl m j++[(j:Int)] else dl m j)↔_
   constructor
   · intro h
     split at h
     · rename_i e
       rcases List.mem_append.1 h with h | h
       · obtain ⟨i,h1,h2,h3⟩:=ih.1 h
         exact ⟨i,h1,by omega,h3⟩
       · rw[List.mem_singleton] at h;exact ⟨j,h,by omega,e⟩
     · obtain ⟨i,h1,h2,h3⟩:=ih.1 h
       exact ⟨i,h1,by omega,h3⟩
   · rintro ⟨i,h1,h2,h3⟩
     by_cases e:i<j
     · have:=ih.2 ⟨i,h1,e,h3⟩
       split
       · exact List.mem_append_left _ this
       · exact this
     · have:i=j:=by omega
       subst this
       rw[if_pos h3,h1];simp
end Go.Eng
end
section
namespace Go.Eng
open Go.Proofs
set_option linter.unusedVariables false
set_option linter.unusedSimpArgs false
set_option maxRecDepth 100000
section
variable (n l k:Nat) (z y:Nat→Int) (H:Heap)
end
theorem dl_all {m:Nat→Int} {j:Nat} (h:∀ i,i<j→m i=1):(dl m j).length=j:=by
 induction j with
 | zero=>rfl
 | succ j ih =>
   show (if m j=1 then dl m j++[(j:Int)] else dl m j).length=_
   rw[if_pos (h j (by omega)),List.length_append,ih (fun i hi=>h i (by omega))];rfl
theorem nd_nil (z:Nat→Int) (i:Nat):doB z [] i=false:=by
 cases h:doB z [] i with
 | false=>rfl
 | true=>obtain ⟨b,h1,_⟩:=(doB_iff z [] i).1 h;cases h1
noncomputable def fwP (z:Nat→Int) (L:List Int):List (Int×Int):=bsS z L.length L
section
variable (n l:Nat) (z:Nat→Int) (H:Heap)
end
end Go.Eng
end
section
namespace Go.Eng
open Go.Proofs
set_option linter.unusedVariables false
set_option linter.unusedSimpArgs false
set_option maxRecDepth 100000
noncomputable def g63 (l m k:Nat) (y g b a:Nat→Int):List AV→Option (Prop×AV):=fun x=>some (x=[.ptrT (some 0) (.G [slA 7 l y]) 0,sl1 m g false],.tup [sl1 k b false,sl1 k a false])
theorem u23x (n l:Nat) (z:Nat→Int) (H:Heap) (e:Int):bodyT Tryz.prog (cd n) 100000 23 Tryz.f23 (KtB.kt 23) (il (ctG noCt 62 (gO (slA 5 l z) (.tup [.nilp,.int .i64 e]))) n 0) noBT noRT [(slA 5 l z,none)] H =
 Tr.reqP (slA 5 l z=slA 5 l z) (Tr.ite (notB (eqI e (Int.ofNat 0))) (Tr.ok ((AV.tup [AV.nils,AV.int .i64 e],none),H)) Tr.bad):=by kernel_rfl
theorem u23 (n l m k:Nat) (z y g b a:Nat→Int) (H:Heap):bodyT Tryz.prog (cd n) 100000 23 Tryz.f23 (KtB.kt 23) (il (ctG (ctG (ctG noCt 62 (gO (slA 5 l z) (.tup [.ptrT (some 0) (.G [slA 7 l y]) 0,.int .i64 0]))) 64 (gO (.ptrT (some 0) (.G [slA 7 l y]) 0) (sl1 m g false))) 63 (g63 l m k y g b a)) n 0) noBT noRT [(slA 5 l z,none)] H =
 (fun (Z0:List AV)=>Tr.reqP (slA 5 l z=slA 5 l z) (Tr.ite (notB (eqI (Int.ofNat 0) (Int.ofNat 0))) (Tr.ok ((AV.tup [AV.nils,AV.int .i64 (Int.ofNat 0)],none),H)) (Tr.reqP (AV.ptrT (some 0) (Row.G [slA 7 l y]) 0=AV.ptrT (some 0) (Row.G [slA 7 l y]) 0) (Tr.reqP (Z0=Z0) (Tr.req (mkO (Int.ofNat k) (Int.ofNat k) 8) (Tr.req (leN (minN k (toN (Int.ofNat k))) k) (Tr.req (leN (addO 0 (minN k (toN (Int.ofNat k)))) k) (Tr.req (eqN 0 0) (Tr.req (inO 0 (minN k (toN (Int.ofNat k))) 0 (toN (Int.ofNat k))) (Tr.req (eqN 0 0) (Tr.req (inO 0 (toN (Int.ofNat k)) 0 (toN (Int.ofNat k))) (Tr.ok ((AV.tup [AV.slcT none (Row.M [Seg.arr .i64 (shO (copO (fun x=>Int.ofNat 0) 0 b (minN k (toN (Int.ofNat k)))) 0) (toN (Int.ofNat k))]) 1 (toN (Int.ofNat k)) (eqN (toN (Int.ofNat k)) (toN (Int.ofNat k))),AV.int .i64 (Int.ofNat 0)],none),H))))))))))))) [AV.ptrT (some 0) (Row.G [slA 7 l y]) 0,AV.slcT none (Row.M [Seg.arr .i64 g m]) 1 m false]:=by kernel_rfl
def noB (z:Nat→Int) (j:Nat):Bool:=decide (bHi z j<bLo z j)
section
variable (n l:Nat) (z:Nat→Int) (H:Heap)
theorem no_all:exN (noB z) l=false↔∀ i,i<l→bLo z i≤bHi z i:=by
 constructor
 · intro h i hi
   apply Int.not_lt.1
   intro hc
   have:exN (noB z) l=true:=(exN_iff _ _).2 ⟨i,hi,by unfold noB;rw[decide_eq_true hc]⟩
   rw[h] at this;cases this
 · intro h
   cases hx:exN (noB z) l with
   | false=>rfl
   | true =>
     obtain ⟨i,h1,h2⟩:=(exN_iff _ _).1 hx
     unfold noB at h2
     have:=h i h1
     rw[decide_eq_true_eq] at h2
     omega
theorem dl_lt {m:Nat→Int} {j i:Nat} (hi:i<j) (h:m i≠1):(dl m j).length<j:=by
 induction j with
 | zero=>omega
 | succ j ih =>
   show (if m j=1 then dl m j++[(j:Int)] else dl m j).length < _
   have:=dl_len m j
   by_cases e:i<j
   · have:=ih e
     split
     · rw[List.length_append];simp only[List.length_cons,List.length_nil];omega
     · omega
   · have:i=j:=by omega
     subst this
     rw[if_neg h];omega
theorem who_eq:whoE l z=if chkO l z≠0 then chkO l z else if exN (noB z) l=true then 22 else 0:=by
 unfold whoE
 by_cases h:chkO l z≠0
 · rw[if_pos h,if_pos h]
 · rw[if_neg h,if_neg h]
   by_cases h2:exN (noB z) l=true
   · rw[if_pos h2]
     obtain ⟨i,h3,h4⟩:=(exN_iff _ _).1 h2
     unfold noB at h4
     rw[decide_eq_true_eq] at h4
     rw[if_pos (dl_lt h3 (by unfold smM;rw[if_neg (by omega)];decide))]
   · have h3:=(no_all l z).1 (by simpa using h2)
     rw[if_neg h2,if_neg]
     rw[dl_all (fun i hi=>by unfold smM;rw[if_pos (h3 i hi)])]
     omega
theorem who_ok (h:whoE l z=0):chkO l z=0∧∀ i,i<l→bLo z i≤bHi z i:=by
 rw[who_eq] at h
 by_cases h1:chkO l z≠0
 · rw[if_pos h1] at h;exact absurd h h1
 · rw[if_neg h1] at h
   refine ⟨by simpa using h1,(no_all l z).1 ?_⟩
   cases h2:exN (noB z) l with
   | false=>rfl
   | true=>rw[h2,if_pos rfl] at h;cases h
theorem sm_nd (h:whoE l z=0):dl (smM z) l=dl (ndM z []) l:=by
 obtain ⟨_,h2⟩:=who_ok l z h
 refine dl_congr (fun i hi=>?_)
 unfold smM ndM
 rw[if_pos (h2 i hi),nd_nil];simp
noncomputable def fwB (l:Nat) (z:Nat→Int):List Int:=(fwP z (dl (ndM z []) l)).map (·.1)
noncomputable def fwA (l:Nat) (z:Nat→Int):List Int:=(fwP z (dl (ndM z []) l)).map (·.2)
end
end Go.Eng
end
section
namespace Go.Eng
open Go.Proofs
set_option linter.unusedVariables false
set_option linter.unusedSimpArgs false
set_option maxRecDepth 100000
theorem ct63_ok {l m k':Nat} {k:Nat} {t:Ctr} {y g b a:Nat→Int} (ht:t.Ok (cd k)) (h:∀ H,cd k (.fn 63) [.ptrT (some 0) (.G [slA 7 l y]) 0,sl1 m g false] H=some (.tup [sl1 k' b false,sl1 k' a false],H)):(ctG t 63 (g63 l m k' y g b a)).Ok (cd k):=by
 refine ctG_ok ht (fun args p v hg hp H=>?_)
 unfold g63 at hg
 simp only[nP] at hg
 obtain ⟨rfl,rfl⟩:=hg
 rw[hp];exact h H
noncomputable def cpZ (B:List Int):Nat→Int:=copO (fun x=>Int.ofNat 0) 0 (lstO B) B.length
theorem cp_at (B:List Int) (j:Nat) (h:j<B.length):cpZ B j=lstO B j:=by
 unfold cpZ;rw[copO_eq];unfold copZ;rw[if_pos (by omega)];simp
noncomputable def bsPV (l:Nat) (z:Nat→Int):AV:=if whoE l z=0 then .tup [sl1 (fwB l z).length (cpZ (fwB l z)) true,.int .i64 0] else .tup [.nils,.int .i64 (whoE l z)]
section
variable (n l:Nat) (z:Nat→Int) (H:Heap)
theorem whoV_ok (h:whoE l z=0):whoV l z=.tup [.ptrT (some 0) (.G [slA 7 l (oY z l)]) 0,.int .i64 0]:=by unfold whoV;rw[if_pos h];rfl
theorem c63w (h:whoE l z=0):cd (n+5) (.fn 63) [bookV l z,dA (dl (smM z) l)] H=some (.tup [dA (fwB l z),dA (fwA l z)],H):=by
 obtain ⟨h1,h2⟩:=who_ok l z h
 obtain ⟨hl,_⟩:=chk_odd h1
 have e:=sm_nd l z h
 have hN:(dl (ndM z []) l).length=l:=dl_all (fun i _=>by unfold ndM;rw[nd_nil];rfl)
 have hm:∀ x ∈ dl (ndM z []) l,okE l z x:=fun x hx=>by
  obtain ⟨i,rfl,h5,_⟩:=(dl_mem _ _ _).1 hx
  exact ⟨by omega,by omega,by rw[Int.toNat_natCast];exact h2 i h5⟩
 have:=c63 n l z H (by omega) (dl (ndM z []) l) (lstO (dl (ndM z []) l)) (by omega) (fun _ _=>rfl) hm
 rw[e]
 cases hL:dl (ndM z []) l with
 | nil=>rw[hL] at hN;simp at hN;omega
 | cons a r=>rw[hL] at this;unfold fwB fwA fwP;rw[hL];exact this
theorem fw_cons (h:whoE l z=0):∃ a r,fwP z (dl (ndM z []) l)=a::r:=by
 obtain ⟨h1,h2⟩:=who_ok l z h
 obtain ⟨hl,_⟩:=chk_odd h1
 have hN:(dl (ndM z []) l).length=l:=dl_all (fun i _=>by unfold ndM;rw[nd_nil];rfl)
 unfold fwP
 cases e:dl (ndM z []) l with
 | nil=>rw[e] at hN;simp at hN;omega
 | cons a r=>exact ⟨_,_,rfl⟩
theorem bs_len (z:Nat→Int):∀ (k:Nat) (L:List Int),(bsS z k L).length≤k
 | 0,_=>Nat.zero_le _
 | k+1,[]=>Nat.zero_le _
 | k+1,a::r=>by
   show (bsS z k _).length+1≤_
   have:=bs_len z k (kpt (pB z (bHi z (lsZ z (lstO (a::r)) r.length).toNat)) (lstO (a::r)) (r.length+1))
   omega
theorem fw_len:(fwP z (dl (ndM z []) l)).length≤l:=by
 have h1:=bs_len z (dl (ndM z []) l).length (dl (ndM z []) l)
 have h2:=dl_len (ndM z []) l
 unfold fwP;omega
theorem c23:cd (n+13) (.fn 23) [slA 5 l z] H=some (bsPV l z,H):=by
 have hc:∀ k H,cd (n+12+k) (.fn 62) [slA 5 l z] H=some (whoV l z,H):=fun k H=>by rw[show n+12+k=n+k+12 by omega];exact c62 _ l z H
 unfold bsPV
 by_cases h:whoE l z=0
 · rw [if_pos h]
   rw[whoV_ok l z h] at hc
   obtain ⟨h1,h2⟩:=who_ok l z h
   obtain ⟨hl,_⟩:=chk_odd h1
   have h63:=fun k H=>c63w (n+7+k) l z H h
   have hd:∀ k H,cd (n+12+k) (.fn 64) [.ptrT (some 0) (.G [slA 7 l (oY z l)]) 0] H=some (dA (dl (smM z) l),H):=fun k H=>by rw[show n+12+k=n+8+k+4 by omega];exact c64 _ l z H h1
   have hlen:=fw_len l z
   obtain ⟨p,q,e⟩:=fw_cons l z h
   have hN:(dl (smM z) l).length=l:=by rw[sm_nd l z h];exact dl_all (fun i _=>by unfold ndM;rw[nd_nil];rfl)
   have eB:fwB l z=p.1::q.map (·.1):=by unfold fwB;rw[e];rfl
   have eA:fwA l z=p.2::q.map (·.2):=by unfold fwA;rw[e];rfl
   have lA:(q.map (·.2)).length=q.length:=by simp
   have lB:(q.map (·.1)).length=q.length:=by simp
   rw[e] at hlen
   simp only[List.length_cons] at hlen
   cases e2:dl (smM z) l with
   | nil=>rw[e2] at hN;simp at hN;omega
   | cons a r =>
     rw[e2] at hd h63 hN
     simp only[List.length_cons] at hN
     rw[eB,eA] at h63
     rw[eB]
     generalize hC:p.1::q.map (·.1)=B at *
     have hk:B.length=q.length+1:=by rw[← hC];simp
     have hdB:dA B=sl1 (q.length+1) (lstO B) false:=by rw[← hC];show AV.slcT none (.M [.arr .i64 _ ((q.map (·.1)).length+1)]) 1 ((q.map (·.1)).length+1) false=_;rw[lB]
     have hdA:dA (p.2::q.map (·.2))=sl1 (q.length+1) (lstO (p.2::q.map (·.2))) false:=by show AV.slcT none (.M [.arr .i64 _ ((q.map (·.2)).length+1)]) 1 ((q.map (·.2)).length+1) false=_;rw[lA]
     rw[hdB,hdA] at h63
     refine fn_all (n:=n+12) Tryz.func23 rfl rfl rfl (u23 (n+12) l (r.length+1) (q.length+1) z (oY z l) (lstO (a::r)) (lstO B) (lstO (p.2::q.map (·.2))) H) (il_ok _ (n+12) 0 (fun k=>ct63_ok (ctV1 (ctV1 (noCt_ok _) (hc k)) (hd k)) (fun H=>by rw[show n+12+k=n+7+k+5 by omega];exact h63 k H))) (noBT_ok _ _) (noRT_ok _ _) ?_
     have t1:toN (Int.ofNat (q.length+1))=q.length+1:=toN_eq _
     have t2:minN (q.length+1) (q.length+1)=q.length+1:=by rw[minN_eq];omega
     rw[t1,t2,shO_zero]
     repeat' first | (refine Tr.all_ite (fun hc=>?_) (fun hc=>?_)<;>(try simp (disch:=omega) only[nV,nW] at hc)<;>try omega) | (refine Tr.all_req ?_ ?_;· (try simp (disch:=omega) only[nV,nW]);try omega) | (refine Tr.all_reqP ?_ ?_;· first | exact trivial | rfl | exact ⟨rfl,rfl⟩ | exact ⟨rfl,rfl,rfl⟩ | (simp (disch:=omega) only[nV,nW];done) | ((try simp (disch:=omega) only[nV,nW]);omega)) | fail
     all_goals first
      | (refine Tr.all_ok ⟨?_,rfl⟩
         show AV.tup [.slcT none (.M [.arr .i64 _ (q.length+1)]) 1 (q.length+1) (eqN (q.length+1) (q.length+1)),_]=_
         unfold cpZ
         rw[hk,beqN_self];rfl)
      | fail
 · rw[if_neg h]
   have hv:whoV l z=.tup [.nilp,.int .i64 (whoE l z)]:=by unfold whoV;rw[if_neg h]
   rw[hv] at hc
   refine fn_all (n:=n+12) Tryz.func23 rfl rfl rfl (u23x (n+12) l z H (whoE l z)) (il_ok _ (n+12) 0 (fun k=>ctV1 (noCt_ok _) (hc k))) (noBT_ok _ _) (noRT_ok _ _) ?_
   repeat' first | (refine Tr.all_ite (fun hc=>?_) (fun hc=>?_)<;>(try simp (disch:=omega) only[nV,nW] at hc)<;>try omega) | (refine Tr.all_req ?_ ?_;· (try simp (disch:=omega) only[nV,nW]);try omega) | (refine Tr.all_reqP ?_ ?_;· first | exact trivial | rfl | exact ⟨rfl,rfl⟩ | exact ⟨rfl,rfl,rfl⟩ | (simp (disch:=omega) only[nV,nW];done) | ((try simp (disch:=omega) only[nV,nW]);omega)) | fail
   all_goals first
    | exact Tr.all_ok ⟨rfl,rfl⟩
    | fail
end
end Go.Eng
end
section
namespace Go.Eng
open Go.Proofs
set_option linter.unusedVariables false
set_option linter.unusedSimpArgs false
set_option maxRecDepth 100000
end Go.Eng
end
section
namespace Go.Eng
open Go.Proofs
set_option linter.unusedVariables false
set_option linter.unusedSimpArgs false
set_option maxRecDepth 100000
section
variable (n:Nat) (m:Nat) (g:Nat→Int) (H:Heap) (j:Int) (hm:m≤1000)
include hm
end
theorem dA_sl (L:List Int) (k:Nat) (h:L.length=k+1):dA L=sl1 (k+1) (lstO L) false:=by
 cases L with
 | nil=>simp at h
 | cons a r =>
   simp only[List.length_cons] at h
   have:r.length=k:=by omega
   subst this;rfl
section
variable (n l:Nat) (z:Nat→Int) (m:Nat) (g:Nat→Int) (H:Heap) (j:Nat) (kb:Nat) (hb:Nat→Int) (hl:l≤14) (hm:1≤m∧m≤1000) (hg:∀ j,j<m→okE l z (g j)) (hj:j<l)
include hg in
end
end Go.Eng
end
section
namespace Go.Eng
open Go.Proofs
set_option linter.unusedVariables false
set_option linter.unusedSimpArgs false
set_option maxRecDepth 100000
noncomputable def alL (l:Nat) (z:Nat→Int):List Int:=dl (ndM z []) l
section
variable (n l:Nat) (z:Nat→Int) (H:Heap)
theorem al_len:(alL l z).length=l:=dl_all (fun i _=>by unfold ndM;rw[nd_nil];rfl)
theorem al_in (j:Nat) (h:j<l):(j:Int) ∈ alL l z:=(dl_mem _ _ _).2 ⟨j,rfl,h,by unfold ndM;rw[nd_nil];rfl⟩
end
end Go.Eng
end
section
namespace Go.Eng
open Go.Proofs
set_option linter.unusedVariables false
set_option linter.unusedSimpArgs false
set_option maxRecDepth 100000
end Go.Eng
end
section
namespace Go.Eng
open Go.Proofs
set_option linter.unusedVariables false
set_option linter.unusedSimpArgs false
set_option maxRecDepth 100000
section
variable (z z':Nat→Int) (φ:Int→Int)
end
end Go.Eng
end
section
namespace Go.Eng
open Go.Proofs
set_option linter.unusedVariables false
set_option linter.unusedSimpArgs false
set_option maxRecDepth 100000
section
variable (n l:Nat) (z:Nat→Int) (H:Heap)
noncomputable def P66 (k:Nat) (f:Nat→Int):Nat:=(fwP f (alL k f)).length
theorem fw_ne {l:Nat} {z:Nat→Int} (h:1≤l):∃ k,(fwP z (alL l z)).length=k+1:=by
 have:=al_len l z
 cases e:alL l z with
 | nil=>rw[e] at this;simp at this;omega
 | cons a r=>exact ⟨_,rfl⟩
end
end Go.Eng
end
