/- Bath: CheckBaths and Worth as they are defined. -/
import Derived.Test.YtigmfpmabgekoaaGreatV4Be2x2
import Derived.Test.YtigmfpmabgekoaaGreatV4Ba4x9
import Derived.Test.YtigmfpmabgekoaaGreatV4EngRn4x3
import Derived.Test.YtigmfpmabgekoaaGreatV4EngKtBx5
import Derived.Test.YtigmfpmabgekoaaGreatProg
import Derived.KernelRfl
import Derived.Test.YtigmfpmabgekoaaGreatChecked
section
namespace Go.Eng
open Go.Proofs
set_option linter.unusedVariables false
set_option linter.unusedSimpArgs false
set_option maxRecDepth 100000
section
variable (n l k:Nat) (z b:Nat→Int) (full:Bool) (H:Heap)
theorem l30 (h:chkO l z=0) (hk:k≤1000):exec (cxD (n+4) 30 27) (.block 0 (.loop (part Tryz.f30 [1,1,1,0,1,0,0]))) (fr30 l k z b full 0) (lvE::H)=some (cond (exN (fun j=>!dnN z b k j) l) (.ret,[(4,.int .i64 22)],lvE::H) (.normal,fr30 l k z b full (Int.ofNat l)++[(19,.bool false)],lvE::H)):=by
 obtain ⟨hl,hb⟩:=chk_odd h
 refine findX 0 (fun j=>fr30 l k z b full (j:Int)) (fun _=>lvE::H) l (fun j=>!dnN z b k j) (fun j=>([(4,.int .i64 22)],lvE::H)) (fr30 l k z b full (Int.ofNat l)++[(19,.bool false)],lvE::H) (by omega) (fun j hj=>?_) ?_
 · have hc:∀ H,cd (n+4) (.fn 73) [slA 5 l z,sl1 k b full,.int .i64 (j:Int)] H=some (.bool (dnN z b k j),H):=fun H=>c73f n l k z b H j full h hj hk
   refine ex_all (t30 (n+4) l k z b full H (j:Int) (dnN z b k j)) (il_ok0 _ _ (ct73 (noCt_ok _) hc)) (noBT_ok _ _) (noRT_ok _ _) ?_
   show Tr.all _ (fun x=>if (!dnN z b k j)=true then _ else _)
   rw[cs64 (by omega)]
   cases dnN z b k j with
   | false =>
     simp only[Bool.not_false,if_true]
     repeat' first | (refine Tr.all_ite (fun hc=>?_) (fun hc=>?_)<;>(try simp (disch:=omega) only[nV,nW] at hc)<;>try omega) | (refine Tr.all_req ?_ ?_;· (try simp (disch:=omega) only[nV,nW]);try omega) | (refine Tr.all_reqP ?_ ?_;· first | exact trivial | rfl | exact ⟨rfl,rfl⟩ | exact ⟨rfl,rfl,rfl⟩ | (simp (disch:=omega) only[nV,nW];done) | ((try simp (disch:=omega) only[nV,nW]);omega)) | fail
     all_goals first
      | exact Tr.all_ok rfl
      | fail
   | true =>
     simp only[Bool.not_true,Bool.false_eq_true,if_false]
     repeat' first | (refine Tr.all_ite (fun hc=>?_) (fun hc=>?_)<;>(try simp (disch:=omega) only[nV,nW] at hc)<;>try omega) | (refine Tr.all_req ?_ ?_;· (try simp (disch:=omega) only[nV,nW]);try omega) | (refine Tr.all_reqP ?_ ?_;· first | exact trivial | rfl | exact ⟨rfl,rfl⟩ | exact ⟨rfl,rfl,rfl⟩ | (simp (disch:=omega) only[nV,nW];done) | ((try simp (disch:=omega) only[nV,nW]);omega)) | fail
     all_goals first
      | exact Tr.all_ok ⟨rfl,rfl⟩
      | fail
 · obtain ⟨x,h1,rfl⟩:=ex_all (Q:=fun x=>x=(.exit 0,fr30 l k z b full (Int.ofNat l)++[(19,.bool false)],lvE::H)) (t30x (n+4) l k z b full H (Int.ofNat l)) (il_no0 _) (noBT_ok _ _) (noRT_ok _ _) (by
    refine Tr.all_ite (fun hc=>?_) (fun hc=>Tr.all_ok rfl)
    simp (disch:=omega) only[nV,nW] at hc;omega)
   exact h1
theorem c30:cd (n+6) (.fn 30) [slA 5 l z,sl1 k b full] H=some (.int .i64 (cbE l z k b),H):=by
 have hc:∀ q H,cd (n+5+q) (.fn 21) [slA 5 l z] H=some (.int .i64 (chkO l z),H):=fun q H=>by rw[show n+5+q=n+2+q+3 by omega];exact c21 _ l z H
 have h38:∀ q H,cd (n+5+q) (.fn 38) [sl1 k b full] H=some (.int .i64 (ibE k b),H):=fun q H=>by rw[show n+5+q=n+4+q+1 by omega];exact c38 _ k b full H
 unfold cbE
 by_cases h:chkO l z=0
 · rw [if_neg (fun x=>x h)]
   by_cases h2:ibE k b=0
   · rw [if_neg (fun x=>x h2)]
     rw[h2] at h38
     rw[h] at hc
     have hx:=l30 (n+1) l k z b full H h (by have:=ib_k h2;omega)
     refine fn_all (n:=n+5) Tryz.func30 rfl rfl rfl (u30 (n+5) l k z b full H (exN (fun j=>!dnN z b k j) l)) (il_ok _ (n+5) 0 (fun k=>ct70 (ctV1 (noCt_ok _) (hc k)) (h38 k))) (blkE_ok (noBT_ok _ _) b30 (fun x h=>blk_ite h hx)) (noRT_ok _ _) ?_
     cases exN (fun j=>!dnN z b k j) l with
     | true =>
       rw[if_pos rfl]
       repeat' first | (refine Tr.all_ite (fun hc=>?_) (fun hc=>?_)<;>(try simp (disch:=omega) only[nV,nW] at hc)<;>try omega) | (refine Tr.all_req ?_ ?_;· (try simp (disch:=omega) only[nV,nW]);try omega) | (refine Tr.all_reqP ?_ ?_;· first | exact trivial | rfl | exact ⟨rfl,rfl⟩ | exact ⟨rfl,rfl,rfl⟩ | (simp (disch:=omega) only[nV,nW];done) | ((try simp (disch:=omega) only[nV,nW]);omega)) | fail
       all_goals first
        | exact Tr.all_ok ⟨rfl,rfl⟩
        | fail
     | false =>
       rw[if_neg (by decide)]
       repeat' first | (refine Tr.all_ite (fun hc=>?_) (fun hc=>?_)<;>(try simp (disch:=omega) only[nV,nW] at hc)<;>try omega) | (refine Tr.all_req ?_ ?_;· (try simp (disch:=omega) only[nV,nW]);try omega) | (refine Tr.all_reqP ?_ ?_;· first | exact trivial | rfl | exact ⟨rfl,rfl⟩ | exact ⟨rfl,rfl,rfl⟩ | (simp (disch:=omega) only[nV,nW];done) | ((try simp (disch:=omega) only[nV,nW]);omega)) | fail
       all_goals first
        | exact Tr.all_ok ⟨rfl,rfl⟩
        | fail
   · rw[if_pos h2]
     refine fn_all (n:=n+5) Tryz.func30 rfl rfl rfl (u30x (n+5) l k z b full H (chkO l z) (ibE k b)) (il_ok _ (n+5) 0 (fun k=>ct70 (ctV1 (noCt_ok _) (hc k)) (h38 k))) (stopB_ok (noBT_ok _ _) 0) (noRT_ok _ _) ?_
     repeat' first | (refine Tr.all_ite (fun hc=>?_) (fun hc=>?_)<;>(try simp (disch:=omega) only[nV,nW] at hc)<;>try omega) | (refine Tr.all_req ?_ ?_;· (try simp (disch:=omega) only[nV,nW]);try omega) | (refine Tr.all_reqP ?_ ?_;· first | exact trivial | rfl | exact ⟨rfl,rfl⟩ | exact ⟨rfl,rfl,rfl⟩ | (simp (disch:=omega) only[nV,nW];done) | ((try simp (disch:=omega) only[nV,nW]);omega)) | fail
     all_goals first
      | exact Tr.all_ok ⟨rfl,rfl⟩
      | fail
 · rw[if_pos h]
   refine fn_all (n:=n+5) Tryz.func30 rfl rfl rfl (u30x (n+5) l k z b full H (chkO l z) (ibE k b)) (il_ok _ (n+5) 0 (fun k=>ct70 (ctV1 (noCt_ok _) (hc k)) (h38 k))) (stopB_ok (noBT_ok _ _) 0) (noRT_ok _ _) ?_
   repeat' first | (refine Tr.all_ite (fun hc=>?_) (fun hc=>?_)<;>(try simp (disch:=omega) only[nV,nW] at hc)<;>try omega) | (refine Tr.all_req ?_ ?_;· (try simp (disch:=omega) only[nV,nW]);try omega) | (refine Tr.all_reqP ?_ ?_;· first | exact trivial | rfl | exact ⟨rfl,rfl⟩ | exact ⟨rfl,rfl,rfl⟩ | (simp (disch:=omega) only[nV,nW];done) | ((try simp (disch:=omega) only[nV,nW]);omega)) | fail
   all_goals first
    | exact Tr.all_ok ⟨rfl,rfl⟩
    | fail
theorem c39 (h:chkO l z=0) (hk:k≤1000):cd (n+5) (.fn 39) [slA 5 l z,sl1 k b full] H=some (.int .i64 (woS z k b l),H):=by
 obtain ⟨hl,hb⟩:=chk_odd h
 have hx:=forX (n:=n+4) (f:=39) (nt:=25) (c:=part Tryz.f39 [1,1,0,1,0,0]) 0 (fun j=>fr39 l k z b full (woS z k b j) (j:Int)) (fun _=>lvE::H) l (fr39 l k z b full (woS z k b l) (Int.ofNat l)++[(10,.bool false)],lvE::H) (by omega) (fun j hj=>?_) ?_
 · refine fn_all (n:=n+4) Tryz.func39 rfl rfl rfl (u39 (n+4) l k z b full H (woS z k b l)) (il_no0 _) (blkE_ok (noBT_ok _ _) b39 (fun x hy=>by rw[← Tr.ok_some hy];simp only[Res.st,hints_eq];exact hx)) (noRT_ok _ _) ?_
   repeat' first | (refine Tr.all_ite (fun hc=>?_) (fun hc=>?_)<;>(try simp (disch:=omega) only[nV,nW] at hc)<;>try omega) | (refine Tr.all_req ?_ ?_;· (try simp (disch:=omega) only[nV,nW]);try omega) | (refine Tr.all_reqP ?_ ?_;· first | exact trivial | rfl | exact ⟨rfl,rfl⟩ | exact ⟨rfl,rfl,rfl⟩ | (simp (disch:=omega) only[nV,nW];done) | ((try simp (disch:=omega) only[nV,nW]);omega)) | fail
   all_goals first
    | exact Tr.all_ok ⟨rfl,rfl⟩
    | fail
 · have hc:∀ H,cd (n+4) (.fn 73) [slA 5 l z,sl1 k b full,.int .i64 (j:Int)] H=some (.bool (dnN z b k j),H):=fun H=>c73f n l k z b H j full h hj hk
   have hw:=wo_bnd h k b j (by omega)
   have hz:=hb j hj
   have hs:woS z k b (j+1)=if dnN z b k j=true then woS z k b j+z (j*5+4) else woS z k b j:=rfl
   refine ex_all (t39 (n+4) l k z b full H (woS z k b j) (j:Int) (dnN z b k j)) (il_ok0 _ _ (ct73 (noCt_ok _) hc)) (noBT_ok _ _) (noRT_ok _ _) ?_
   have e5:idO 0 (j:Int) 5=j*5:=by rw[idO_eq];omega
   have e4:addO (j*5) 4=j*5+4:=by rw[addO_eq]
   have ea:addI .i64 (woS z k b j) (z (j*5+4))=woS z k b j+z (j*5+4):=by rw[addI_eq];exact wr_64 (by omega) (by omega)
   rw[cs64 (by omega),e5,e4,ea,hs]
   cases dnN z b k j with
   | true =>
     rw[if_pos rfl]
     repeat' first | (refine Tr.all_ite (fun hc=>?_) (fun hc=>?_)<;>(try simp (disch:=omega) only[nV,nW] at hc)<;>try omega) | (refine Tr.all_req ?_ ?_;· (try simp (disch:=omega) only[nV,nW]);try omega) | (refine Tr.all_reqP ?_ ?_;· first | exact trivial | rfl | exact ⟨rfl,rfl⟩ | exact ⟨rfl,rfl,rfl⟩ | (simp (disch:=omega) only[nV,nW];done) | ((try simp (disch:=omega) only[nV,nW]);omega)) | fail
     all_goals first
      | exact Tr.all_ok ⟨rfl,rfl⟩
      | fail
   | false =>
     rw[if_neg (by decide)]
     repeat' first | (refine Tr.all_ite (fun hc=>?_) (fun hc=>?_)<;>(try simp (disch:=omega) only[nV,nW] at hc)<;>try omega) | (refine Tr.all_req ?_ ?_;· (try simp (disch:=omega) only[nV,nW]);try omega) | (refine Tr.all_reqP ?_ ?_;· first | exact trivial | rfl | exact ⟨rfl,rfl⟩ | exact ⟨rfl,rfl,rfl⟩ | (simp (disch:=omega) only[nV,nW];done) | ((try simp (disch:=omega) only[nV,nW]);omega)) | fail
     all_goals first
      | exact Tr.all_ok ⟨rfl,rfl⟩
      | fail
 · obtain ⟨x,h1,rfl⟩:=ex_all (Q:=fun x=>x=(.exit 0,fr39 l k z b full (woS z k b l) (Int.ofNat l)++[(10,.bool false)],lvE::H)) (t39x (n+4) l k z b full H (woS z k b l) (Int.ofNat l)) (il_no0 _) (noBT_ok _ _) (noRT_ok _ _) (by
    refine Tr.all_ite (fun hc=>?_) (fun hc=>Tr.all_ok rfl)
    simp (disch:=omega) only[nV,nW] at hc;omega)
   exact h1
theorem c28:cd (n+6) (.fn 28) [slA 5 l z,sl1 k b full] H=some (woV l z k b,H):=by
 have hc:∀ q H,cd (n+5+q) (.fn 21) [slA 5 l z] H=some (.int .i64 (chkO l z),H):=fun q H=>by rw[show n+5+q=n+2+q+3 by omega];exact c21 _ l z H
 have h38:∀ q H,cd (n+5+q) (.fn 38) [sl1 k b full] H=some (.int .i64 (ibE k b),H):=fun q H=>by rw[show n+5+q=n+4+q+1 by omega];exact c38 _ k b full H
 unfold woV
 by_cases h:chkO l z=0
 · rw [if_neg (fun x=>x h)]
   by_cases h2:ibE k b=0
   · rw[if_neg (fun x=>x h2)]
     have h39:∀ q H,cd (n+5+q) (.fn 39) [slA 5 l z,sl1 k b full] H=some (.int .i64 (woS z k b l),H):=fun q H=>by rw[show n+5+q=n+q+5 by omega];exact c39 _ l k z b full H h (by have:=ib_k h2;omega)
     refine fn_all (n:=n+5) Tryz.func28 rfl rfl rfl (u28 (n+5) l k z b full H (chkO l z) (ibE k b) (woS z k b l)) (il_ok _ (n+5) 0 (fun k=>ct28 (ct70 (ctV1 (noCt_ok _) (hc k)) (h38 k)) (h39 k))) (noBT_ok _ _) (noRT_ok _ _) ?_
     repeat' first | (refine Tr.all_ite (fun hc=>?_) (fun hc=>?_)<;>(try simp (disch:=omega) only[nV,nW] at hc)<;>try omega) | (refine Tr.all_req ?_ ?_;· (try simp (disch:=omega) only[nV,nW]);try omega) | (refine Tr.all_reqP ?_ ?_;· first | exact trivial | rfl | exact ⟨rfl,rfl⟩ | exact ⟨rfl,rfl,rfl⟩ | (simp (disch:=omega) only[nV,nW];done) | ((try simp (disch:=omega) only[nV,nW]);omega)) | fail
     all_goals first
      | exact Tr.all_ok ⟨rfl,rfl⟩
      | fail
   · rw[if_pos h2]
     refine fn_all (n:=n+5) Tryz.func28 rfl rfl rfl (u28x (n+5) l k z b full H (chkO l z) (ibE k b)) (il_ok _ (n+5) 0 (fun k=>ct70 (ctV1 (noCt_ok _) (hc k)) (h38 k))) (noBT_ok _ _) (noRT_ok _ _) ?_
     repeat' first | (refine Tr.all_ite (fun hc=>?_) (fun hc=>?_)<;>(try simp (disch:=omega) only[nV,nW] at hc)<;>try omega) | (refine Tr.all_req ?_ ?_;· (try simp (disch:=omega) only[nV,nW]);try omega) | (refine Tr.all_reqP ?_ ?_;· first | exact trivial | rfl | exact ⟨rfl,rfl⟩ | exact ⟨rfl,rfl,rfl⟩ | (simp (disch:=omega) only[nV,nW];done) | ((try simp (disch:=omega) only[nV,nW]);omega)) | fail
     all_goals first
      | exact Tr.all_ok ⟨rfl,rfl⟩
      | fail
 · rw[if_pos h]
   refine fn_all (n:=n+5) Tryz.func28 rfl rfl rfl (u28x (n+5) l k z b full H (chkO l z) (ibE k b)) (il_ok _ (n+5) 0 (fun k=>ct70 (ctV1 (noCt_ok _) (hc k)) (h38 k))) (noBT_ok _ _) (noRT_ok _ _) ?_
   repeat' first | (refine Tr.all_ite (fun hc=>?_) (fun hc=>?_)<;>(try simp (disch:=omega) only[nV,nW] at hc)<;>try omega) | (refine Tr.all_req ?_ ?_;· (try simp (disch:=omega) only[nV,nW]);try omega) | (refine Tr.all_reqP ?_ ?_;· first | exact trivial | rfl | exact ⟨rfl,rfl⟩ | exact ⟨rfl,rfl,rfl⟩ | (simp (disch:=omega) only[nV,nW];done) | ((try simp (disch:=omega) only[nV,nW]);omega)) | fail
   all_goals first
    | exact Tr.all_ok ⟨rfl,rfl⟩
    | fail
end
end Go.Eng
end
section
namespace Go.Eng
open Go.Proofs
set_option linter.unusedVariables false
set_option linter.unusedSimpArgs false
set_option maxRecDepth 100000
noncomputable def gX (A:List AV) (V:AV):List AV→Option (Prop×AV):=fun x=>some (x=A,V)
noncomputable def tX (t:Ctr) (f:FuncId) (A:List AV) (V:AV):Ctr:=ctG t f (gX A V)
noncomputable def ct4 (L Bf B1 B2 C:AV) (e w f g:Int):Ctr:=ctG (tX (tX (tX (tX (tX (tX (tX (tX (tX (tX noCt 23 [L] (.tup [B1,.int .i64 e])) 24 [L] (.tup [B2,.int .i64 e])) 25 [L] (.tup [C,.int .i64 e])) 26 [L] (.tup [C,.int .i64 e])) 27 [L,Bf] (.tup [.int .i64 w,.int .i64 f])) 28 [L,Bf] (.tup [.int .i64 w,.int .i64 f])) 29 [L,Bf] (.int .i64 g)) 30 [L,Bf] (.int .i64 g)) 31 [B1,B2] (.bool true)) 22 [C,C] (.bool true)) 15 g15
theorem u4x (n l k:Nat) (z b:Nat→Int) (full:Bool) (H:Heap) (e w f g:Int):bodyT Tryz.prog (cd (n+1)) 100000 4 Tryz.f4 (KtB.kt 4) (il (ct4 (slA 5 l z) (sl1 k b full) .nils .nils .nils e w f g) n 1) noBT noRT [(slA 5 l z,none),(sl1 k b full,none)] H =
 Tr.ite (ltI (Int.ofNat 20) (Int.ofNat l)) (Tr.reqP True (Tr.ok ((AV.bool true,none),H))) (Tr.ite (ltI (Int.ofNat 20) (Int.ofNat k)) (Tr.reqP True (Tr.ok ((AV.bool true,none),H))) (Tr.reqP ([slA 5 l z]=[slA 5 l z]) (Tr.reqP ([slA 5 l z]=[slA 5 l z]) (Tr.reqP ([slA 5 l z]=[slA 5 l z]) (Tr.reqP ([slA 5 l z]=[slA 5 l z]) (Tr.reqP ([slA 5 l z,AV.slcT none (Row.M [Seg.arr .i64 b k]) 1 k full]=[slA 5 l z,AV.slcT none (Row.M [Seg.arr .i64 b k]) 1 k full]) (Tr.reqP ([slA 5 l z,AV.slcT none (Row.M [Seg.arr .i64 b k]) 1 k full]=[slA 5 l z,AV.slcT none (Row.M [Seg.arr .i64 b k]) 1 k full]) (Tr.reqP ([slA 5 l z,AV.slcT none (Row.M [Seg.arr .i64 b k]) 1 k full]=[slA 5 l z,AV.slcT none (Row.M [Seg.arr .i64 b k]) 1 k full]) (Tr.reqP ([slA 5 l z,AV.slcT none (Row.M [Seg.arr .i64 b k]) 1 k full]=[slA 5 l z,AV.slcT none (Row.M [Seg.arr .i64 b k]) 1 k full]) (Tr.ite (eqI g g) (Tr.reqP ([AV.nils,AV.nils]=[AV.nils,AV.nils]) (Tr.ite true (Tr.ite (eqI e e) (Tr.reqP ([AV.nils,AV.nils]=[AV.nils,AV.nils]) (Tr.ite true (Tr.ite (eqI e e) (Tr.ite (eqI w w) (Tr.ite (eqI f f) (Tr.reqP True (Tr.ok ((AV.bool true,none),H))) (Tr.ok ((AV.bool false,some 1),H))) (Tr.ok ((AV.bool false,some 1),H))) (Tr.ok ((AV.bool false,some 1),H))) (Tr.ok ((AV.bool false,some 1),H)))) (Tr.ok ((AV.bool false,some 1),H))) (Tr.ok ((AV.bool false,some 1),H)))) (Tr.ok ((AV.bool false,some 1),H)))))))))))):=by kernel_rfl
theorem u4n (n l k p:Nat) (z b x y:Nat→Int) (full:Bool) (H:Heap) (e w f g:Int):bodyT Tryz.prog (cd (n+1)) 100000 4 Tryz.f4 (KtB.kt 4) (il (ct4 (slA 5 l z) (sl1 k b full) (sl1 p x true) (sl1 p y false) .nils e w f g) n 1) noBT noRT [(slA 5 l z,none),(sl1 k b full,none)] H =
 (fun (Z0:List AV)=>Tr.ite (ltI (Int.ofNat 20) (Int.ofNat l)) (Tr.reqP True (Tr.ok ((AV.bool true,none),H))) (Tr.ite (ltI (Int.ofNat 20) (Int.ofNat k)) (Tr.reqP True (Tr.ok ((AV.bool true,none),H))) (Tr.reqP ([slA 5 l z]=[slA 5 l z]) (Tr.reqP ([slA 5 l z]=[slA 5 l z]) (Tr.reqP ([slA 5 l z]=[slA 5 l z]) (Tr.reqP ([slA 5 l z]=[slA 5 l z]) (Tr.reqP ([slA 5 l z,AV.slcT none (Row.M [Seg.arr .i64 b k]) 1 k full]=[slA 5 l z,AV.slcT none (Row.M [Seg.arr .i64 b k]) 1 k full]) (Tr.reqP ([slA 5 l z,AV.slcT none (Row.M [Seg.arr .i64 b k]) 1 k full]=[slA 5 l z,AV.slcT none (Row.M [Seg.arr .i64 b k]) 1 k full]) (Tr.reqP ([slA 5 l z,AV.slcT none (Row.M [Seg.arr .i64 b k]) 1 k full]=[slA 5 l z,AV.slcT none (Row.M [Seg.arr .i64 b k]) 1 k full]) (Tr.reqP ([slA 5 l z,AV.slcT none (Row.M [Seg.arr .i64 b k]) 1 k full]=[slA 5 l z,AV.slcT none (Row.M [Seg.arr .i64 b k]) 1 k full]) (Tr.ite (eqI g g) (Tr.reqP (Z0=Z0) (Tr.ite true (Tr.ite (eqI e e) (Tr.reqP ([AV.nils,AV.nils]=[AV.nils,AV.nils]) (Tr.ite true (Tr.ite (eqI e e) (Tr.ite (eqI w w) (Tr.ite (eqI f f) (Tr.reqP True (Tr.ok ((AV.bool true,none),H))) (Tr.ok ((AV.bool false,some 1),H))) (Tr.ok ((AV.bool false,some 1),H))) (Tr.ok ((AV.bool false,some 1),H))) (Tr.ok ((AV.bool false,some 1),H)))) (Tr.ok ((AV.bool false,some 1),H))) (Tr.ok ((AV.bool false,some 1),H)))) (Tr.ok ((AV.bool false,some 1),H))))))))))))) [AV.slcT none (Row.M [Seg.arr .i64 x p]) 1 p true,AV.slcT none (Row.M [Seg.arr .i64 y p]) 1 p false]:=by kernel_rfl
theorem u4c (n l k p q:Nat) (z b x y c:Nat→Int) (full:Bool) (H:Heap) (e w f g:Int):bodyT Tryz.prog (cd (n+1)) 100000 4 Tryz.f4 (KtB.kt 4) (il (ct4 (slA 5 l z) (sl1 k b full) (sl1 p x true) (sl1 p y false) (sl1 q c false) e w f g) n 1) noBT noRT [(slA 5 l z,none),(sl1 k b full,none)] H =
 (fun (Z0:List AV)=>((fun (Z1:List AV)=>Tr.ite (ltI (Int.ofNat 20) (Int.ofNat l)) (Tr.reqP True (Tr.ok ((AV.bool true,none),H))) (Tr.ite (ltI (Int.ofNat 20) (Int.ofNat k)) (Tr.reqP True (Tr.ok ((AV.bool true,none),H))) (Tr.reqP ([slA 5 l z]=[slA 5 l z]) (Tr.reqP ([slA 5 l z]=[slA 5 l z]) (Tr.reqP ([slA 5 l z]=[slA 5 l z]) (Tr.reqP ([slA 5 l z]=[slA 5 l z]) (Tr.reqP ([slA 5 l z,AV.slcT none (Row.M [Seg.arr .i64 b k]) 1 k full]=[slA 5 l z,AV.slcT none (Row.M [Seg.arr .i64 b k]) 1 k full]) (Tr.reqP ([slA 5 l z,AV.slcT none (Row.M [Seg.arr .i64 b k]) 1 k full]=[slA 5 l z,AV.slcT none (Row.M [Seg.arr .i64 b k]) 1 k full]) (Tr.reqP ([slA 5 l z,AV.slcT none (Row.M [Seg.arr .i64 b k]) 1 k full]=[slA 5 l z,AV.slcT none (Row.M [Seg.arr .i64 b k]) 1 k full]) (Tr.reqP ([slA 5 l z,AV.slcT none (Row.M [Seg.arr .i64 b k]) 1 k full]=[slA 5 l z,AV.slcT none (Row.M [Seg.arr .i64 b k]) 1 k full]) (Tr.ite (eqI g g) (Tr.reqP (Z1=Z1) (Tr.ite true (Tr.ite (eqI e e) (Tr.reqP (Z0=Z0) (Tr.ite true (Tr.ite (eqI e e) (Tr.ite (eqI w w) (Tr.ite (eqI f f) (Tr.reqP True (Tr.ok ((AV.bool true,none),H))) (Tr.ok ((AV.bool false,some 1),H))) (Tr.ok ((AV.bool false,some 1),H))) (Tr.ok ((AV.bool false,some 1),H))) (Tr.ok ((AV.bool false,some 1),H)))) (Tr.ok ((AV.bool false,some 1),H))) (Tr.ok ((AV.bool false,some 1),H)))) (Tr.ok ((AV.bool false,some 1),H))))))))))))) [AV.slcT none (Row.M [Seg.arr .i64 x p]) 1 p true,AV.slcT none (Row.M [Seg.arr .i64 y p]) 1 p false])) [AV.slcT none (Row.M [Seg.arr .i64 c q]) 1 q false,AV.slcT none (Row.M [Seg.arr .i64 c q]) 1 q false]:=by kernel_rfl
theorem tX_ok {c f:Nat} {t:Ctr} {A:List AV} {V:AV} (ht:t.Ok (cd c)) (h:∀ H,cd c (.fn f) A H=some (V,H)):(tX t f A V).Ok (cd c):=by
 refine ctG_ok ht (fun args p v hg hp H=>?_)
 unfold gX at hg
 simp only[nP] at hg
 obtain ⟨rfl,rfl⟩:=hg
 rw[hp];exact h H
theorem ctW {c:Nat} {t:Ctr} (h:0<c) (ht:t.Ok (cd c)):(ctG t 15 g15).Ok (cd c):=by
 obtain ⟨m,rfl⟩:∃ m,c=m+1:=⟨c-1,by omega⟩
 exact ctWk ht
theorem wo_e (l:Nat) (z:Nat→Int) (k:Nat) (b:Nat→Int):∃ w f,woV l z k b=.tup [.int .i64 w,.int .i64 f]:=by
 unfold woV
 split
 · exact ⟨_,_,rfl⟩
 split
 · exact ⟨_,_,rfl⟩
 · exact ⟨_,_,rfl⟩
section
variable (n l k:Nat) (z b:Nat→Int) (full:Bool) (H:Heap)
theorem c4:cd (n+15) (.fn 4) [slA 5 l z,sl1 k b full] H=some (.bool true,H):=by
 have h23:∀ q H,cd (n+13+q) (.fn 23) [slA 5 l z] H=some (bsPV l z,H):=fun q H=>by rw[show n+13+q=n+q+13 by omega];exact c23 _ l z H
 have h24:∀ q H,cd (n+13+q) (.fn 24) [slA 5 l z] H=some (bsRV l z,H):=fun q H=>by rw[show n+13+q=n+5+q+8 by omega];exact c24 _ l z H
 have h25:∀ q H,cd (n+13+q) (.fn 25) [slA 5 l z] H=some (csPV l z,H):=fun q H=>by rw[show n+13+q=n+q+13 by omega];exact c25 _ l z H
 have h26:∀ q H,cd (n+13+q) (.fn 26) [slA 5 l z] H=some (csPV l z,H):=fun q H=>by rw[show n+13+q=n+5+q+8 by omega];exact c26 _ l z H
 have h27:∀ q H,cd (n+13+q) (.fn 27) [slA 5 l z,sl1 k b full] H=some (woV l z k b,H):=fun q H=>by rw[show n+13+q=n+2+q+11 by omega];exact c27 _ l k z b full H
 have h28:∀ q H,cd (n+13+q) (.fn 28) [slA 5 l z,sl1 k b full] H=some (woV l z k b,H):=fun q H=>by rw[show n+13+q=n+7+q+6 by omega];exact c28 _ l k z b full H
 have h29:∀ q H,cd (n+13+q) (.fn 29) [slA 5 l z,sl1 k b full] H=some (.int .i64 (cbE l z k b),H):=fun q H=>by rw[show n+13+q=n+2+q+11 by omega];exact c29 _ l k z b full H
 have h30:∀ q H,cd (n+13+q) (.fn 30) [slA 5 l z,sl1 k b full] H=some (.int .i64 (cbE l z k b),H):=fun q H=>by rw[show n+13+q=n+7+q+6 by omega];exact c30 _ l k z b full H
 obtain ⟨w,f,ew⟩:=wo_e l z k b
 rw[ew] at h27 h28
 generalize cbE l z k b=g at *
 unfold bsPV at h23
 unfold bsRV at h24
 unfold csPV at h25 h26
 by_cases h:whoE l z=0
 · rw [if_pos h] at h23 h24 h25 h26
   have hlen:=fw_len l z
   obtain ⟨p,q,e⟩:=fw_cons l z h
   obtain ⟨hw1,_⟩:=who_ok l z h
   obtain ⟨hl,_⟩:=chk_odd hw1
   have eB:(fwB l z).length=q.length+1:=by unfold fwB;rw[e];simp
   rw[dA_sl _ _ eB] at h24
   rw[e] at hlen
   simp only[List.length_cons] at hlen
   have h31:∀ q2 H,cd (n+13+q2) (.fn 31) [sl1 (q.length+1) (cpZ (fwB l z)) true,sl1 (q.length+1) (lstO (fwB l z)) false] H=some (.bool true,H):=fun q2 H=>by
    rw[show n+13+q2=n+12+q2+1 by omega]
    exact c31 _ H (q.length+1) _ _ true false (by omega) (fun j hj=>cp_at _ j (by omega))
   rw[eB] at h23
   have hcl:=dl_len (csM l z) l
   cases ec:dl (csM l z) l with
   | nil =>
     rw[ec] at h25 h26
     have h22:∀ q2 H,cd (n+13+q2) (.fn 22) [.nils,.nils] H=some (.bool true,H):=fun q2 H=>by rw[show n+13+q2=n+12+q2+1 by omega];exact c22n _ H
     refine fn_all (n:=n+14) Tryz.func4 rfl rfl rfl (u4n (n+13) l k (q.length+1) z b (cpZ (fwB l z)) (lstO (fwB l z)) full H 0 w f g) (il_ok _ (n+13) 1 (fun q2=>ctW (by omega) (tX_ok (tX_ok (tX_ok (tX_ok (tX_ok (tX_ok (tX_ok (tX_ok (tX_ok (tX_ok (noCt_ok _) (h23 q2)) (h24 q2)) (h25 q2)) (h26 q2)) (h27 q2)) (h28 q2)) (h29 q2)) (h30 q2)) (h31 q2)) (h22 q2)))) (noBT_ok _ _) (noRT_ok _ _) ?_
     repeat' first | (refine Tr.all_ite (fun hc=>?_) (fun hc=>?_)<;>(try simp (disch:=omega) only[nV,nW] at hc)<;>try omega) | (refine Tr.all_req ?_ ?_;· (try simp (disch:=omega) only[nV,nW]);try omega) | (refine Tr.all_reqP ?_ ?_;· first | exact trivial | rfl | exact ⟨rfl,rfl⟩ | exact ⟨rfl,rfl,rfl⟩ | (simp (disch:=omega) only[nV,nW];done) | ((try simp (disch:=omega) only[nV,nW]);omega)) | fail
     all_goals first
      | exact Tr.all_ok ⟨rfl,rfl⟩
      | fail
   | cons a r =>
     rw[ec] at h25 h26 hcl
     simp only[List.length_cons] at hcl
     have h22:∀ q2 H,cd (n+13+q2) (.fn 22) [dA (a::r),dA (a::r)] H=some (.bool true,H):=fun q2 H=>by rw[show n+13+q2=n+12+q2+1 by omega];exact c22d _ H (a::r) (by simp;omega)
     refine fn_all (n:=n+14) Tryz.func4 rfl rfl rfl (u4c (n+13) l k (q.length+1) (r.length+1) z b (cpZ (fwB l z)) (lstO (fwB l z)) (lstO (a::r)) full H 0 w f g) (il_ok _ (n+13) 1 (fun q2=>ctW (by omega) (tX_ok (tX_ok (tX_ok (tX_ok (tX_ok (tX_ok (tX_ok (tX_ok (tX_ok (tX_ok (noCt_ok _) (h23 q2)) (h24 q2)) (h25 q2)) (h26 q2)) (h27 q2)) (h28 q2)) (h29 q2)) (h30 q2)) (h31 q2)) (h22 q2)))) (noBT_ok _ _) (noRT_ok _ _) ?_
     repeat' first | (refine Tr.all_ite (fun hc=>?_) (fun hc=>?_)<;>(try simp (disch:=omega) only[nV,nW] at hc)<;>try omega) | (refine Tr.all_req ?_ ?_;· (try simp (disch:=omega) only[nV,nW]);try omega) | (refine Tr.all_reqP ?_ ?_;· first | exact trivial | rfl | exact ⟨rfl,rfl⟩ | exact ⟨rfl,rfl,rfl⟩ | (simp (disch:=omega) only[nV,nW];done) | ((try simp (disch:=omega) only[nV,nW]);omega)) | fail
     all_goals first
      | exact Tr.all_ok ⟨rfl,rfl⟩
      | fail
 · rw[if_neg h] at h23 h24 h25 h26
   have h31:∀ q2 H,cd (n+13+q2) (.fn 31) [.nils,.nils] H=some (.bool true,H):=fun q2 H=>by rw[show n+13+q2=n+12+q2+1 by omega];exact c31n _ H
   have h22:∀ q2 H,cd (n+13+q2) (.fn 22) [.nils,.nils] H=some (.bool true,H):=fun q2 H=>by rw[show n+13+q2=n+12+q2+1 by omega];exact c22n _ H
   refine fn_all (n:=n+14) Tryz.func4 rfl rfl rfl (u4x (n+13) l k z b full H (whoE l z) w f g) (il_ok _ (n+13) 1 (fun q2=>ctW (by omega) (tX_ok (tX_ok (tX_ok (tX_ok (tX_ok (tX_ok (tX_ok (tX_ok (tX_ok (tX_ok (noCt_ok _) (h23 q2)) (h24 q2)) (h25 q2)) (h26 q2)) (h27 q2)) (h28 q2)) (h29 q2)) (h30 q2)) (h31 q2)) (h22 q2)))) (noBT_ok _ _) (noRT_ok _ _) ?_
   repeat' first | (refine Tr.all_ite (fun hc=>?_) (fun hc=>?_)<;>(try simp (disch:=omega) only[nV,nW] at hc)<;>try omega) | (refine Tr.all_req ?_ ?_;· (try simp (disch:=omega) only[nV,nW]);try omega) | (refine Tr.all_reqP ?_ ?_;· first | exact trivial | rfl | exact ⟨rfl,rfl⟩ | exact ⟨rfl,rfl,rfl⟩ | (simp (disch:=omega) only[nV,nW];done) | ((try simp (disch:=omega) only[nV,nW]);omega)) | fail
   all_goals first
    | exact Tr.all_ok ⟨rfl,rfl⟩
    | fail
end
end Go.Eng
end
section
namespace Go.Proofs.YtigmfpmabgekoaaGreat.Known
open Go.Eng Go.Proofs
set_option maxRecDepth 100000
theorem named:Named Tryz.prog:=by
 have h:(Tryz.prog.funcs.toList.all fun fn=>fn.body.isNone || !(fn.name == "runtime.NumGoroutine"))=true:=by kernel_rfl
 intro f fn hf hb
 have:=List.all_eq_true.1 h fn (by simpa using Array.mem_of_getElem? hf)
 rw[hb] at this
 simpa using this
theorem mixed:Tryz.prog.follows .mixedOrders=true:=by kernel_rfl
theorem none_ok:∀ e ∈ ([]:List Ora),OneOk Tryz.prog e:=fun e h=>by cases h
theorem cons_ok {e:Ora} {t:List Ora} (h:OneOk Tryz.prog e) (k:∀ x ∈ t,OneOk Tryz.prog x):∀ x ∈ e::t,OneOk Tryz.prog x:=fun x hx=>by
 rcases List.mem_cons.1 hx with rfl | hx
 · exact h
 · exact k x hx
def tab0:List Ora:=[]
theorem tab0_ok:∀ e ∈ tab0,OneOk Tryz.prog e:=none_ok
def navB:List Nat→Code→Code
 | [],c=>c
 | x :: p,c=>match c with
   | .seq a b=>match x with
     | 0=>navB p a
     | _=>navB p b
   | .cond _ a b=>match x with
     | 0=>navB p a
     | _=>navB p b
   | .block _ b=>navB p b
   | .loop b=>navB p b
   | .scope b=>navB p b
   | .rangeFunc _ _ a b=>match x with
     | 0=>navB p a
     | _=>navB p b
   | c=>c
def opsB:Code→Array Oper
 | .region _ ops _=>ops
 | _=>#[]
noncomputable def bd79:Code:=Tryz.f79.body.getD .skip
def hdO (l:List Oper):Oper:=l.headD { dst:=none,op:=.move (.tmp 0),type:=0,pos := "",after:=#[],guard:=none }
noncomputable def mostS:RStart:={ id0:=24,ops0:=opsB (navB [1,1,1,1,1,1,0,0] bd79),pre:=(opsB (navB [1,1,1,1,1,1,0,0] bd79)).toList.take 1,ro:=hdO ((opsB (navB [1,1,1,1,1,1,0,0] bd79)).toList.drop 1),m:=90,ty:=122 }
noncomputable def mostL:RLoop:={ out:=6,id1:=25,id2:=26,nxt:=7,ops1:=opsB (navB [1,1,1,1,1,1,0,1,0,0,0] bd79),ops2:=opsB (navB [1,1,1,1,1,1,0,1,0,0,1,1,0,0] bd79),no:=hdO (opsB (navB [1,1,1,1,1,1,0,1,0,0,0] bd79)).toList,eo:=hdO (opsB (navB [1,1,1,1,1,1,0,1,0,0,1,1,0,0] bd79)).toList,t1:=(opsB (navB [1,1,1,1,1,1,0,1,0,0,0] bd79)).toList.tail,t2:=(opsB (navB [1,1,1,1,1,1,0,1,0,0,1,1,0,0] bd79)).toList.tail,it:=91,nx:=92,mo:=93,en:=94,rest:=navB [1,1,1,1,1,1,0,1,0,0,1,1,0,1] bd79,km:=1361129467678802093696356908627478183936 }
noncomputable def most:RFun:={ f:=79,pre:=[navB [0] bd79,navB [1,0] bd79,navB [1,1,0] bd79,navB [1,1,1,0] bd79,navB [1,1,1,1,0] bd79,navB [1,1,1,1,1,0] bd79],S:=mostS,L:=mostL,suf:=navB [1,1,1,1,1,1,1] bd79 }
theorem most_b:Tryz.f79.body=some (assemble most.pre (mostS.code mostL) most.suf):=by kernel_rfl
theorem most_l0:mostS.ops0.toList=mostS.pre++[mostS.ro]:=by kernel_rfl
theorem most_o0:mostS.ro.op=.range mostS.ty (.tmp mostS.m):=by kernel_rfl
theorem most_d0:mostS.ro.dst=some mostL.it:=by kernel_rfl
theorem most_g0:mostS.ro.guard=none:=by kernel_rfl
theorem most_l1:mostL.ops1.toList=mostL.no::mostL.t1:=by kernel_rfl
theorem most_o1:mostL.no.op=.next (.tmp mostL.it) false:=by kernel_rfl
theorem most_d1:mostL.no.dst=some mostL.nx:=by kernel_rfl
theorem most_g1:mostL.no.guard=none:=by kernel_rfl
theorem most_l2:mostL.ops2.toList=mostL.eo::mostL.t2:=by kernel_rfl
theorem most_o2:mostL.eo.op=.entry (.tmp mostL.it):=by kernel_rfl
theorem most_d2:mostL.eo.dst=some mostL.en:=by kernel_rfl
theorem most_g2:mostL.eo.guard=none:=by kernel_rfl
theorem most_ok:most.Ok Tryz.prog:=⟨⟨Tryz.f79,Tryz.func79,most_b⟩,⟨most_l0,most_o0,most_d0,most_g0,⟨_,_,Tryz.underlying122⟩⟩,⟨most_l1,most_o1,most_d1,most_g1,most_l2,most_o2,most_d2,most_g2⟩⟩
noncomputable def rs:List RFun:=[most]
theorem rs_ok:∀ r ∈ rs,r.Ok Tryz.prog:=fun r h=>by
 rcases List.mem_cons.1 h with rfl | h
 · exact most_ok
 · cases h
end Go.Proofs.YtigmfpmabgekoaaGreat.Known
end
section
namespace Go.Proofs.YtigmfpmabgekoaaGreat.Known
open Go.Eng Go.Proofs
set_option maxRecDepth 100000
noncomputable def E1:Ora:=⟨51,[],.slcT none (.I .i64 [100,110,20,60,5,90,90,10,30,3,150,150,0,40,4,130,140,30,35,6]) 5 4 true⟩
theorem ok1:OneOk Tryz.prog E1:=one_ofO named mixed tab0_ok rs_ok [50] KtB.kt 100000 40 (H':=[⟨true,[]⟩]) (by kernel_rfl) (by kernel_rfl)
noncomputable def tab1:List Ora:=E1::tab0
theorem tab1_ok:∀ e ∈ tab1,OneOk Tryz.prog e:=cons_ok ok1 tab0_ok
noncomputable def E2:Ora:=⟨18,[.slcT none (.I .i64 [100,110,20,60,5,90,90,10,30,3,150,150,0,40,4,130,130,25,50,6]) 5 4 true,.int .i64 80],.tup [.slcT none (.I .i64 [0,1,3]) 1 3 false,.int .i64 0]⟩
theorem ok2:OneOk Tryz.prog E2:=one_ofO named mixed tab1_ok rs_ok [68] KtB.kt 100000 40 (H':=[⟨true,[]⟩]) (by kernel_rfl) (by kernel_rfl)
noncomputable def tab2:List Ora:=E2::tab1
theorem tab2_ok:∀ e ∈ tab2,OneOk Tryz.prog e:=cons_ok ok2 tab1_ok
noncomputable def E3:Ora:=⟨23,[.slcT none (.I .i64 [100,110,20,60,5,90,90,10,30,3,150,150,0,40,4,130,130,25,50,6]) 5 4 true],.tup [.slcT none (.I .i64 [80,150]) 1 2 true,.int .i64 0]⟩
theorem ok3:OneOk Tryz.prog E3:=one_ofO named mixed tab2_ok rs_ok [68] KtB.kt 100000 40 (H':=[⟨true,[]⟩]) (by kernel_rfl) (by kernel_rfl)
noncomputable def tab3:List Ora:=E3::tab2
theorem tab3_ok:∀ e ∈ tab3,OneOk Tryz.prog e:=cons_ok ok3 tab2_ok
end Go.Proofs.YtigmfpmabgekoaaGreat.Known
end
section
namespace Go.Proofs.YtigmfpmabgekoaaGreat.Known
open Go.Eng Go.Proofs
set_option maxRecDepth 100000
noncomputable def E4:Ora:=⟨32,[.slcT none (.I .i64 [100,110,20,60,5,90,90,10,30,3,150,150,0,40,4,130,130,25,50,6]) 5 4 true],.tup [.slcT none (.I .i64 [0,2]) 1 2 false,.int .i64 0]⟩
theorem ok4:OneOk Tryz.prog E4:=one_ofO named mixed tab3_ok rs_ok [68] KtB.kt 100000 40 (H':=[⟨true,[]⟩]) (by kernel_rfl) (by kernel_rfl)
noncomputable def tab4:List Ora:=E4::tab3
theorem tab4_ok:∀ e ∈ tab4,OneOk Tryz.prog e:=cons_ok ok4 tab3_ok
noncomputable def E5:Ora:=⟨25,[.slcT none (.I .i64 [100,110,20,60,5,90,90,10,30,3,150,150,0,40,4,130,130,25,50,6]) 5 4 true],.tup [.slcT none (.I .i64 [2]) 1 1 false,.int .i64 0]⟩
theorem ok5:OneOk Tryz.prog E5:=one_ofO named mixed tab4_ok rs_ok [68] KtB.kt 100000 40 (H':=[⟨true,[]⟩]) (by kernel_rfl) (by kernel_rfl)
noncomputable def tab5:List Ora:=E5::tab4
theorem tab5_ok:∀ e ∈ tab5,OneOk Tryz.prog e:=cons_ok ok5 tab4_ok
noncomputable def E6:Ora:=⟨36,[.slcT none (.I .i64 [100,110,20,60,5,90,90,10,30,3,150,150,0,40,4,130,130,25,50,6]) 5 4 true,.int .i64 1],.tup [.int .i64 14,.slcT none (.I .i64 [80]) 1 1 false,.int .i64 0]⟩
theorem ok6:OneOk Tryz.prog E6:=one_ofO named mixed tab5_ok rs_ok [68] KtB.kt 100000 40 (H':=[⟨true,[]⟩]) (by kernel_rfl) (by kernel_rfl)
noncomputable def tab6:List Ora:=E6::tab5
theorem tab6_ok:∀ e ∈ tab6,OneOk Tryz.prog e:=cons_ok ok6 tab5_ok
end Go.Proofs.YtigmfpmabgekoaaGreat.Known
end
section
namespace Go.Proofs.YtigmfpmabgekoaaGreat.Known
open Go.Eng Go.Proofs
set_option maxRecDepth 100000
noncomputable def E7:Ora:=⟨43,[.slcT none (.I .i64 [100,110,20,60,5,90,90,10,30,3,150,150,0,40,4,130,130,25,50,6]) 5 4 true,.int .i64 1],.tup [.int .i64 4,.slcT none (.I .i64 [1,3,4,0]) 1 4 true,.int .i64 0]⟩
theorem ok7:OneOk Tryz.prog E7:=one_ofO named mixed tab6_ok rs_ok [68] KtB.kt 100000 40 (H':=[⟨true,[]⟩]) (by kernel_rfl) (by kernel_rfl)
noncomputable def tab7:List Ora:=E7::tab6
theorem tab7_ok:∀ e ∈ tab7,OneOk Tryz.prog e:=cons_ok ok7 tab6_ok
noncomputable def E8:Ora:=⟨45,[.slcT none (.I .i64 [100,110,20,60,5,90,90,10,30,3,150,150,0,40,4,130,130,25,50,6]) 5 4 true,.int .i64 1,.int .i64 4,.slcT none (.I .i64 [1,3,4,0]) 1 4 true],.tup [.int .i64 14,.int .i64 0]⟩
theorem ok8:OneOk Tryz.prog E8:=one_ofO named mixed tab7_ok rs_ok [68] KtB.kt 100000 40 (H':=[⟨true,[]⟩]) (by kernel_rfl) (by kernel_rfl)
noncomputable def tab8:List Ora:=E8::tab7
theorem tab8_ok:∀ e ∈ tab8,OneOk Tryz.prog e:=cons_ok ok8 tab7_ok
noncomputable def E9:Ora:=⟨34,[.slcT none (.I .i64 [100,110,20,60,5,90,90,10,30,3,150,150,0,40,4,130,130,25,50,6]) 5 4 true,.slcT none (.I .i64 [0,2]) 1 2 false],.int .i64 0⟩
theorem ok9:OneOk Tryz.prog E9:=one_ofO named mixed tab8_ok rs_ok [68] KtB.kt 100000 40 (H':=[⟨true,[]⟩]) (by kernel_rfl) (by kernel_rfl)
noncomputable def tab9:List Ora:=E9::tab8
theorem tab9_ok:∀ e ∈ tab9,OneOk Tryz.prog e:=cons_ok ok9 tab8_ok
end Go.Proofs.YtigmfpmabgekoaaGreat.Known
end
section
namespace Go.Proofs.YtigmfpmabgekoaaGreat.Known
open Go.Eng Go.Proofs
set_option maxRecDepth 100000
noncomputable def E10:Ora:=⟨39,[.slcT none (.I .i64 [100,110,20,60,5,90,90,10,30,3,150,150,0,40,4,130,130,25,50,6]) 5 4 true,.slcT none (.I .i64 [80]) 1 1 false],.int .i64 14⟩
theorem ok10:OneOk Tryz.prog E10:=one_ofO named mixed tab9_ok rs_ok [68] KtB.kt 100000 40 (H':=[⟨true,[]⟩]) (by kernel_rfl) (by kernel_rfl)
noncomputable def tab10:List Ora:=E10::tab9
theorem tab10_ok:∀ e ∈ tab10,OneOk Tryz.prog e:=cons_ok ok10 tab9_ok
noncomputable def E11:Ora:=⟨36,[.slcT none (.I .i64 [100,110,20,60,5,90,90,10,30,3,150,150,0,40,4,130,130,25,50,6]) 5 4 true,.int .i64 0],.tup [.int .i64 0,.nils,.int .i64 0]⟩
theorem ok11:OneOk Tryz.prog E11:=one_ofO named mixed tab10_ok rs_ok [68] KtB.kt 100000 40 (H':=[⟨true,[]⟩]) (by kernel_rfl) (by kernel_rfl)
noncomputable def tab11:List Ora:=E11::tab10
theorem tab11_ok:∀ e ∈ tab11,OneOk Tryz.prog e:=cons_ok ok11 tab10_ok
noncomputable def E12:Ora:=⟨36,[.slcT none (.I .i64 [100,110,20,60,5,90,90,10,30,3,150,150,0,40,4,130,130,25,50,6]) 5 4 true,.int .i64 2],.tup [.int .i64 18,.slcT none (.I .i64 [80,110]) 1 2 false,.int .i64 0]⟩
theorem ok12:OneOk Tryz.prog E12:=one_ofO named mixed tab11_ok rs_ok [68] KtB.kt 100000 40 (H':=[⟨true,[]⟩]) (by kernel_rfl) (by kernel_rfl)
noncomputable def tab12:List Ora:=E12::tab11
theorem tab12_ok:∀ e ∈ tab12,OneOk Tryz.prog e:=cons_ok ok12 tab11_ok
end Go.Proofs.YtigmfpmabgekoaaGreat.Known
end
section
namespace Go.Proofs.YtigmfpmabgekoaaGreat.Known
open Go.Eng Go.Proofs
set_option maxRecDepth 100000
noncomputable def E13:Ora:=⟨18,[.slcT none (.I .i64 [100,110,20,60,5,90,90,10,30,3,150,150,0,40,4,130,130,25,50,6]) 5 4 true,.int .i64 81],.tup [.slcT none (.I .i64 [3]) 1 1 false,.int .i64 0]⟩
theorem ok13:OneOk Tryz.prog E13:=one_ofO named mixed tab12_ok rs_ok [68] KtB.kt 100000 40 (H':=[⟨true,[]⟩]) (by kernel_rfl) (by kernel_rfl)
noncomputable def tab13:List Ora:=E13::tab12
theorem tab13_ok:∀ e ∈ tab13,OneOk Tryz.prog e:=cons_ok ok13 tab12_ok
noncomputable def E14:Ora:=⟨36,[.slcT none (.I .i64 [100,110,20,60,5,90,90,10,30,3,150,150,0,40,4,130,140,30,35,6]) 5 4 true,.int .i64 1],.tup [.int .i64 8,.slcT none (.I .i64 [60]) 1 1 false,.int .i64 0]⟩
theorem ok14:OneOk Tryz.prog E14:=one_ofO named mixed tab13_ok rs_ok [68] KtB.kt 100000 40 (H':=[⟨true,[]⟩]) (by kernel_rfl) (by kernel_rfl)
noncomputable def tab14:List Ora:=E14::tab13
theorem tab14_ok:∀ e ∈ tab14,OneOk Tryz.prog e:=cons_ok ok14 tab13_ok
end Go.Proofs.YtigmfpmabgekoaaGreat.Known
end
section
namespace Go.Proofs.YtigmfpmabgekoaaGreat.Known
open Go.Eng Go.Proofs
set_option maxRecDepth 100000
noncomputable def EW:Ora:=⟨15,[],.bool true⟩
theorem okW:OneOk Tryz.prog EW:=one_ofO named mixed tab14_ok rs_ok [68] KtB.kt 100000 40 (H':=[⟨true,[]⟩]) (by kernel_rfl) (by kernel_rfl)
end Go.Proofs.YtigmfpmabgekoaaGreat.Known
end
