/- Bath: CheckBaths and Worth as they are defined. -/
import Derived.Test.YtigmfpmabgekoaaGreatV7Be1x3
import Derived.Test.YtigmfpmabgekoaaGreatV7Ba3x9
section
namespace Go.Eng
open Go.Proofs
set_option linter.unusedVariables false
set_option linter.unusedSimpArgs false
set_option maxRecDepth 100000
section
variable (n l k:Nat) (z b:Nat→Int) (full:Bool) (H:Heap)
theorem l30 (h:chkO l z=0) (hk:k≤1000):exec (cxD (n+4) 30 27) (.block 0 (.loop (part Tryz.f30 [1,1,1,0,1,0,0]))) (fr30 l k z b full 0) (lvE::H)=some (cond (exN (fun j=>!dnN z b k j) l) (.ret,[(4,.int .i64 22)],lvE::H) (.normal,fr30 l k z b full (Int.ofNat l)++[(19,.bool false)],lvE::H)):=by
 obtain ⟨hl,hb⟩:=chk_odd h
 refine findX 0 (fun j=>fr30 l k z b full (j:Int)) (fun _=>lvE::H) l (fun j=>!dnN z b k j) (fun j=>([(4,.int .i64 22)],lvE::H)) (fr30 l k z b full (Int.ofNat l)++[(19,.bool false)],lvE::H) (by omega) (fun j hj=>?_) ?_
 · have hc:∀ H,cd (n+4) (.fn 73) [slA 5 l z,sl1 k b full,.int .i64 (j:Int)] H=some (.bool (dnN z b k j),H):=fun H=>c73f n l k z b H j full h hj hk
   refine ex_all (t30 (n+4) l k z b full H (j:Int) (dnN z b k j)) (il_ok0 _ _ (ct73 (noCt_ok _) hc)) (noBT_ok _ _) (noRT_ok _ _) ?_
   show Tr.all _ (fun x=>if (!dnN z b k j)=true then _ else _)
   rw[cs64 (by omega)]
   cases dnN z b k j with
   | false =>
     simp only[Bool.not_false,if_true]
     repeat' first | (refine Tr.all_ite (fun hc=>?_) (fun hc=>?_)<;>(try simp (disch:=omega) only[nV,nW] at hc)<;>try omega) | (refine Tr.all_req ?_ ?_;· (try simp (disch:=omega) only[nV,nW]);try omega) | (refine Tr.all_reqP ?_ ?_;· first | exact trivial | rfl | exact ⟨rfl,rfl⟩ | exact ⟨rfl,rfl,rfl⟩ | (simp (disch:=omega) only[nV,nW];done) | ((try simp (disch:=omega) only[nV,nW]);omega)) | fail
     all_goals first
      | exact Tr.all_ok rfl
      | fail
   | true =>
     simp only[Bool.not_true,Bool.false_eq_true,if_false]
     repeat' first | (refine Tr.all_ite (fun hc=>?_) (fun hc=>?_)<;>(try simp (disch:=omega) only[nV,nW] at hc)<;>try omega) | (refine Tr.all_req ?_ ?_;· (try simp (disch:=omega) only[nV,nW]);try omega) | (refine Tr.all_reqP ?_ ?_;· first | exact trivial | rfl | exact ⟨rfl,rfl⟩ | exact ⟨rfl,rfl,rfl⟩ | (simp (disch:=omega) only[nV,nW];done) | ((try simp (disch:=omega) only[nV,nW]);omega)) | fail
     all_goals first
      | exact Tr.all_ok ⟨rfl,rfl⟩
      | fail
 · obtain ⟨x,h1,rfl⟩:=ex_all (Q:=fun x=>x=(.exit 0,fr30 l k z b full (Int.ofNat l)++[(19,.bool false)],lvE::H)) (t30x (n+4) l k z b full H (Int.ofNat l)) (il_no0 _) (noBT_ok _ _) (noRT_ok _ _) (by
    refine Tr.all_ite (fun hc=>?_) (fun hc=>Tr.all_ok rfl)
    simp (disch:=omega) only[nV,nW] at hc;omega)
   exact h1
theorem c30:cd (n+6) (.fn 30) [slA 5 l z,sl1 k b full] H=some (.int .i64 (cbE l z k b),H):=by
 have hc:∀ q H,cd (n+5+q) (.fn 21) [slA 5 l z] H=some (.int .i64 (chkO l z),H):=fun q H=>by rw[show n+5+q=n+2+q+3 by omega];exact c21 _ l z H
 have h38:∀ q H,cd (n+5+q) (.fn 38) [sl1 k b full] H=some (.int .i64 (ibE k b),H):=fun q H=>by rw[show n+5+q=n+4+q+1 by omega];exact c38 _ k b full H
 unfold cbE
 by_cases h:chkO l z=0
 · rw [if_neg (fun x=>x h)]
   by_cases h2:ibE k b=0
   · rw [if_neg (fun x=>x h2)]
     rw[h2] at h38
     rw[h] at hc
     have hx:=l30 (n+1) l k z b full H h (by have:=ib_k h2;omega)
     refine fn_all (n:=n+5) Tryz.func30 rfl rfl rfl (u30 (n+5) l k z b full H (exN (fun j=>!dnN z b k j) l)) (il_ok _ (n+5) 0 (fun k=>ct70 (ctV1 (noCt_ok _) (hc k)) (h38 k))) (blkE_ok (noBT_ok _ _) b30 (fun x h=>blk_ite h hx)) (noRT_ok _ _) ?_
     cases exN (fun j=>!dnN z b k j) l with
     | true =>
       rw[if_pos rfl]
       repeat' first | (refine Tr.all_ite (fun hc=>?_) (fun hc=>?_)<;>(try simp (disch:=omega) only[nV,nW] at hc)<;>try omega) | (refine Tr.all_req ?_ ?_;· (try simp (disch:=omega) only[nV,nW]);try omega) | (refine Tr.all_reqP ?_ ?_;· first | exact trivial | rfl | exact ⟨rfl,rfl⟩ | exact ⟨rfl,rfl,rfl⟩ | (simp (disch:=omega) only[nV,nW];done) | ((try simp (disch:=omega) only[nV,nW]);omega)) | fail
       all_goals first
        | exact Tr.all_ok ⟨rfl,rfl⟩
        | fail
     | false =>
       rw[if_neg (by decide)]
       repeat' first | (refine Tr.all_ite (fun hc=>?_) (fun hc=>?_)<;>(try simp (disch:=omega) only[nV,nW] at hc)<;>try omega) | (refine Tr.all_req ?_ ?_;· (try simp (disch:=omega) only[nV,nW]);try omega) | (refine Tr.all_reqP ?_ ?_;· first | exact trivial | rfl | exact ⟨rfl,rfl⟩ | exact ⟨rfl,rfl,rfl⟩ | (simp (disch:=omega) only[nV,nW];done) | ((try simp (disch:=omega) only[nV,nW]);omega)) | fail
       all_goals first
        | exact Tr.all_ok ⟨rfl,rfl⟩
        | fail
   · rw[if_pos h2]
     refine fn_all (n:=n+5) Tryz.func30 rfl rfl rfl (u30x (n+5) l k z b full H (chkO l z) (ibE k b)) (il_ok _ (n+5) 0 (fun k=>ct70 (ctV1 (noCt_ok _) (hc k)) (h38 k))) (stopB_ok (noBT_ok _ _) 0) (noRT_ok _ _) ?_
     repeat' first | (refine Tr.all_ite (fun hc=>?_) (fun hc=>?_)<;>(try simp (disch:=omega) only[nV,nW] at hc)<;>try omega) | (refine Tr.all_req ?_ ?_;· (try simp (disch:=omega) only[nV,nW]);try omega) | (refine Tr.all_reqP ?_ ?_;· first | exact trivial | rfl | exact ⟨rfl,rfl⟩ | exact ⟨rfl,rfl,rfl⟩ | (simp (disch:=omega) only[nV,nW];done) | ((try simp (disch:=omega) only[nV,nW]);omega)) | fail
     all_goals first
      | exact Tr.all_ok ⟨rfl,rfl⟩
      | fail
 · rw[if_pos h]
   refine fn_all (n:=n+5) Tryz.func30 rfl rfl rfl (u30x (n+5) l k z b full H (chkO l z) (ibE k b)) (il_ok _ (n+5) 0 (fun k=>ct70 (ctV1 (noCt_ok _) (hc k)) (h38 k))) (stopB_ok (noBT_ok _ _) 0) (noRT_ok _ _) ?_
   repeat' first | (refine Tr.all_ite (fun hc=>?_) (fun hc=>?_)<;>(try simp (disch:=omega) only[nV,nW] at hc)<;>try omega) | (refine Tr.all_req ?_ ?_;· (try simp (disch:=omega) only[nV,nW]);try omega) | (refine Tr.all_reqP ?_ ?_;· first | exact trivial | rfl | exact ⟨rfl,rfl⟩ | exact ⟨rfl,rfl,rfl⟩ | (simp (disch:=omega) only[nV,nW];done) | ((try simp (disch:=omega) only[nV,nW]);omega)) | fail
   all_goals first
    | exact Tr.all_ok ⟨rfl,rfl⟩
    | fail
end
end Go.Eng
end
section
namespace Go.Eng
open Go.Proofs
set_option linter.unusedVariables false
set_option linter.unusedSimpArgs false
set_option maxRecDepth 100000
noncomputable def gX (A:List AV) (V:AV):List AV→Option (Prop×AV):=fun x=>some (x=A,V)
noncomputable def tX (t:Ctr) (f:FuncId) (A:List AV) (V:AV):Ctr:=ctG t f (gX A V)
theorem tX_ok {c f:Nat} {t:Ctr} {A:List AV} {V:AV} (ht:t.Ok (cd c)) (h:∀ H,cd c (.fn f) A H=some (V,H)):(tX t f A V).Ok (cd c):=by
 refine ctG_ok ht (fun args p v hg hp H=>?_)
 unfold gX at hg
 simp only[nP] at hg
 obtain ⟨rfl,rfl⟩:=hg
 rw[hp];exact h H
theorem ctW {c:Nat} {t:Ctr} (h:0<c) (ht:t.Ok (cd c)):(ctG t 15 g15).Ok (cd c):=by
 obtain ⟨m,rfl⟩:∃ m,c=m+1:=⟨c-1,by omega⟩
 exact ctWk ht
section
variable (n l k:Nat) (z b:Nat→Int) (full:Bool) (H:Heap)
end
end Go.Eng
end
section
namespace Go.Eng
open Go.Proofs
set_option linter.unusedVariables false
set_option linter.unusedSimpArgs false
set_option maxRecDepth 100000
noncomputable def ct32 (l m k mb:Nat) (z y g b a a2:Nat→Int) (H:Heap):Ctr:=ctE (ctE (tX (tX noCt 62 [slA 5 l z] (.tup [.ptrT (some 0) (.G [slA 7 l y]) 0,.int .i64 0])) 64 [.ptrT (some 0) (.G [slA 7 l y]) 0] (sl1 m g false)) 63 [.ptrT (some 0) (.G [slA 7 l y]) 0,sl1 m g false] (lvE::H) (.ok (.tup [.slcT none (.M [.arr .i64 b mb]) 1 k false,.slc 0 0 0 0 1 k none],lvO 0 k a::H))) 74 [.slc 0 0 0 0 1 k none] (lvO 0 k a::H) (.ok (.tup [],lvO 0 k a2::H))
theorem t63w (n l m p k k2 v2:Nat) (y b a g g2:Nat→Int) (H:Heap):execT (cxD n 63 44) (il noCt n 0) (blkE noBT 0 (fr63 (sl1 m g false) .nils .nils) (l063 l y::lvE::H) (.ok (.normal,hints (fr63 (sl1 p g2 false) (.slc 0 2 v2 0 1 k none) (.slc 0 1 k2 0 1 k none)++[(12,.bool false)]),l163 l k k2 v2 y b a::lvE::H))) noRT (bodyOf Tryz.f63) (hints [(0,.ptrT (some 1) (.G [slA 7 l y]) 0),(1,sl1 m g false)]) (lvE::lvE::H) =
 (fun (Z0:Nat×Blk)=>((fun (Z1:Frm)=>Tr.reqP (Z1=Z1∧{ lock:=false,bs:=[Z0] } :: lvE::H={ lock:=false,bs:=[Z0] } :: lvE::H) (Tr.ok (Ex.ret,[(4,AV.slc 0 2 v2 0 1 k none,none),(5,AV.slc 0 1 k2 0 1 k none,none)],{ lock:=false,bs:=[Z0,(k2,Blk.row (Row.M [Seg.arr .i64 a k])),(v2,Blk.row (Row.M [Seg.arr .i64 b k]))] } :: lvE::H))) [(1,AV.slcT none (Row.M [Seg.arr .i64 g m]) 1 m false),(2,AV.ptr 0 0 0 0),(6,AV.nils),(7,AV.nils)])) (0,Blk.row (Row.G [AV.ptrT (some 1) (Row.G [slA 7 l y]) 0])):=by kernel_rfl
theorem u32 (n l m k mb:Nat) (z y g b a a2:Nat→Int) (H:Heap):bodyT Tryz.prog (withO2 Tryz.prog KtB.kt 100000 63 (cd n)) 100000 32 Tryz.f32 (KtB.kt 32) (il (ct32 l m k mb z y g b a a2 H) n 0) noBT noRT [(slA 5 l z,none)] H =
 (fun (Z0:List AV)=>Tr.reqP ([slA 5 l z]=[slA 5 l z]) (Tr.ite (notB (eqI (Int.ofNat 0) (Int.ofNat 0))) (Tr.ok ((AV.tup [AV.nils,AV.int .i64 (Int.ofNat 0)],none),H)) (Tr.reqP ([AV.ptrT (some 0) (Row.G [slA 7 l y]) 0]=[AV.ptrT (some 0) (Row.G [slA 7 l y]) 0]) (Tr.reqP (Z0=Z0∧lvE::H=lvE::H) (Tr.reqP ([AV.slc 0 0 0 0 1 k none]=[AV.slc 0 0 0 0 1 k none]∧{ lock:=false,bs:=[(0,Blk.row (Row.M [Seg.arr .i64 a k]))] } :: H={ lock:=false,bs:=[(0,Blk.row (Row.M [Seg.arr .i64 a k]))] } :: H) (Tr.req (eqN 0 0) (Tr.req (inO 0 k 0 k) (Tr.ok ((AV.tup [AV.slcT none (Row.M [Seg.arr .i64 (shO a2 0) k]) 1 k false,AV.int .i64 (Int.ofNat 0)],none),H))))))))) [AV.ptrT (some 0) (Row.G [slA 7 l y]) 0,AV.slcT none (Row.M [Seg.arr .i64 g m]) 1 m false]:=by kernel_rfl
theorem u32x (n l:Nat) (z:Nat→Int) (H:Heap) (e:Int):bodyT Tryz.prog (withO2 Tryz.prog KtB.kt 100000 63 (cd n)) 100000 32 Tryz.f32 (KtB.kt 32) (il (tX noCt 62 [slA 5 l z] (.tup [.nilp,.int .i64 e])) n 0) noBT noRT [(slA 5 l z,none)] H =
 Tr.reqP ([slA 5 l z]=[slA 5 l z]) (Tr.ite (notB (eqI e (Int.ofNat 0))) (Tr.ok ((AV.tup [AV.nils,AV.int .i64 e],none),H)) Tr.bad):=by kernel_rfl
end Go.Eng
end
section
namespace Go.Eng
open Go.Proofs
set_option linter.unusedVariables false
set_option linter.unusedSimpArgs false
set_option maxRecDepth 100000
theorem o63 (n l:Nat) (z:Nat→Int) (H:Heap) (h:whoE l z=0) (k:Nat) (hk:(fwP z (alL l z)).length=k+1):∃ b mb,oCall2 Tryz.prog KtB.kt 100000 63 (cd (n+4)) [bookV l z,sl1 l (lstO (alL l z)) false] (lvE::H)=some (.tup [.slcT none (.M [.arr .i64 b mb]) 1 (k+1) false,.slc 0 0 0 0 1 (k+1) none],lvO 0 (k+1) (lstO (fwA l z))::H):=by
 obtain ⟨h1,h2⟩:=who_ok l z h
 obtain ⟨hl,_⟩:=chk_odd h1
 have hm:∀ x ∈ alL l z,okE l z x:=fun x hx=>by
  obtain ⟨i,rfl,h5,_⟩:=(dl_mem _ _ _).1 hx
  exact ⟨by omega,by omega,by rw[Int.toNat_natCast];exact h2 i h5⟩
 have hal:=al_len l z
 obtain ⟨y,hx,g',rfl⟩:=l63 n l z (lvE::H) hl.2 (alL l z) (lstO (alL l z)) (by omega) (fun _ _=>rfl) hm
 rw[show bsS z (alL l z).length (alL l z)=fwP z (alL l z) from rfl,hal] at hx
 have eB:fwB l z=(fwP z (alL l z)).map (·.1):=rfl
 have eA:fwA l z=(fwP z (alL l z)).map (·.2):=rfl
 rw[eA]
 generalize fwP z (alL l z)=S at *
 cases S with
 | nil=>simp at hk
 | cons a r =>
   have hr:r.length=k:=by simpa using hk
   subst hr
   have hx:exec (cxD (n+4) 63 44) (.block 0 (.loop (part Tryz.f63 [1,1,1,0,0,0]))) (fr63 (sl1 l (lstO (alL l z)) false) .nils .nils) (l063 l (oY z l)::lvE::H)=some (.normal,fr63 (sl1 0 g' false) (.slc 0 2 0 0 1 (r.length+1) none) (.slc 0 1 r.length 0 1 (r.length+1) none)++[(12,.bool false)],l163 l (r.length+1) r.length 0 (oY z l) (lstO ((a::r).map (·.1))) (lstO ((a::r).map (·.2)))::lvE::H):=hx
   obtain ⟨x,hb,rfl⟩:=ex_all (Q:=fun x=>x=(.ret,[(4,.slc 0 2 0 0 1 (r.length+1) none),(5,.slc 0 1 r.length 0 1 (r.length+1) none)],l163 l (r.length+1) r.length 0 (oY z l) (lstO ((a::r).map (·.1))) (lstO ((a::r).map (·.2)))::lvE::H)) (fr:=[(0,.ptrT (some 1) (.G [slA 7 l (oY z l)]) 0),(1,sl1 l (lstO (alL l z)) false)]) (t63w (n+4) l l 0 (r.length+1) r.length 0 (oY z l) (lstO ((a::r).map (·.1))) (lstO ((a::r).map (·.2))) (lstO (alL l z)) g' H) (il_no0 _) (blkE_ok (noBT_ok _ _) b63 (fun x h=>by rw[← Tr.ok_some h];simp only[Res.st,hints_eq];exact hx)) (noRT_ok _ _) (by
    repeat' first | (refine Tr.all_ite (fun hc=>?_) (fun hc=>?_)<;>(try simp (disch:=omega) only[nV,nW] at hc)<;>try omega) | (refine Tr.all_req ?_ ?_;· (try simp (disch:=omega) only[nV,nW]);try omega) | (refine Tr.all_reqP ?_ ?_;· first | exact trivial | rfl | exact ⟨rfl,rfl⟩ | exact ⟨rfl,rfl,rfl⟩ | (simp (disch:=omega) only[nV,nW];done) | ((try simp (disch:=omega) only[nV,nW]);omega)) | fail
    all_goals first
     | exact Tr.all_ok rfl
     | fail)
   have e44:Tryz.f63.ntmps=44:=by kernel_rfl
   have eb:Tryz.f63.body=some (bodyOf Tryz.f63):=by kernel_rfl
   have er:Tryz.f63.results.toList=[.tmp 4,.tmp 5]:=by kernel_rfl
   unfold oCall2
   rw[Tryz.func63];dsimp only
   rw[eb];dsimp only
   rw[if_pos (by rw[e44];rfl),execX_eq,e44]
   rw[show exec (⟨Tryz.prog,cd (n+4),100000,63,44,KtB.kt 63,none⟩:Cx) (bodyOf Tryz.f63) (argFrm 0 [bookV l z,sl1 l (lstO (alL l z)) false]) (⟨false,[]⟩::lvE::H)=_ from hb]
   dsimp only
   rw[er]
   have hq:hRow (l163 l (r.length+1) r.length 0 (oY z l) (lstO ((a::r).map (fun x:Int×Int=>x.1))) (lstO ((a::r).map (fun x:Int×Int=>x.2)))::lvE::H) 0 1 r.length=some (.M [.arr .i64 (lstO ((a::r).map (fun x:Int×Int=>x.2))) (r.length+1)]):=by
    unfold l163;simp[hRow,hGet,nthBlk]
   refine ⟨fun j=>lstO ((a::r).map (fun x:Int×Int=>x.1)) (0+j),(r.length+1)*1,?_⟩
   show (match hRow (l163 l (r.length+1) r.length 0 (oY z l) (lstO ((a::r).map (fun x:Int×Int=>x.1))) (lstO ((a::r).map (fun x:Int×Int=>x.2)))::lvE::H) 0 1 r.length with
    | some q=>if false=true then none else some (frzV (setBlk (l163 l (r.length+1) r.length 0 (oY z l) (lstO ((a::r).map (fun x:Int×Int=>x.1))) (lstO ((a::r).map (fun x:Int×Int=>x.2)))).bs 1 ((hGet (l163 l (r.length+1) r.length 0 (oY z l) (lstO ((a::r).map (fun x:Int×Int=>x.1))) (lstO ((a::r).map (fun x:Int×Int=>x.2)))::lvE::H) 0 1).1,.dead)) 5 (.tup [.slc 0 2 0 0 1 (r.length+1) none,.slc 1 0 0 0 1 (r.length+1) none]),hPushAt (lvE::H) 0 (.row (dnR 1 q)))
    | none=>none)=_
   rw[hq]
   dsimp only
   rw[if_neg (by decide)]
   congr 2
   simp[frzV,nthBlk,setBlk,l163,Row.sub,Row.len,lenM,segLen,arrs]
theorem map_lst (A:List Int):((List.range A.length).map fun q=>lstO A (0+q))=A:=by
 apply List.ext_getElem (by simp)
 intro i h1 h2
 simp only[List.getElem_map,List.getElem_range,Nat.zero_add,lst_at,List.getD_eq_getElem?_getD,List.getElem?_eq_getElem h2,Option.getD_some]
theorem rw_srt (A:List Int):rwZ srtG (lstO A) 0 A.length=lstO (srtG A):=by
 funext x
 have hl:(srtG A).length=A.length:=List.length_mergeSort A
 unfold rwZ
 rw[map_lst,lst_at,lst_at]
 by_cases h:x<A.length
 · rw[if_pos (by omega),Nat.sub_zero]
 · rw[if_neg (by omega),List.getD_eq_getElem?_getD,List.getD_eq_getElem?_getD,List.getElem?_eq_none (by omega),List.getElem?_eq_none (by omega)]
theorem c74 (n k:Nat) (a:Nat→Int) (H:Heap) (h1:0<k) (h2:k<4611686018427387904):cd (n+1) (.fn 74) [.slc 0 0 0 0 1 k none] (lvO 0 k a::H)=some (.tup [],lvO 0 k (rwZ srtG a 0 k)::H):=by
 have:oraD (cd n) 74 [.slc 0 0 0 0 1 k none] (lvO 0 k a::H)=some (.tup [],lvO 0 k (rwZ srtG a 0 k)::H):=by
  show rowC srtG [.slc 0 0 0 0 1 k none] (lvO 0 k a::H)=_
  rw[show rowC srtG [.slc 0 0 0 0 1 k none] (lvO 0 k a::H)=(if hLock (lvO 0 k a::H) 0=false∧0<k∧k<4611686018427387904∧0+k≤k then some (.tup [],hSet (lvO 0 k a::H) 0 0 (0,.row (.M [.arr .i64 (rwZ srtG a 0 k) k]))) else none) from rfl]
  rw[if_pos ⟨rfl,h1,h2,by omega⟩]
  rfl
 unfold cd
 rw[show callN Tryz.prog oraD KtB.kt 100000 (n+1) (.fn 74) [.slc 0 0 0 0 1 k none] (lvO 0 k a::H)=(match oraD (cd n) 74 [.slc 0 0 0 0 1 k none] (lvO 0 k a::H) with
  | some r=>some r
  | none=>_) from rfl,this]
noncomputable def wO (n:Nat):CallT:=withO2 Tryz.prog KtB.kt 100000 63 (cd n)
theorem il_w0 (tab:Ctr) (n:Nat) (ht:tab.Ok (wO n)):(il tab n 0).Ok (wO n) :=
 ⟨by obtain ⟨x,hx⟩:=oraD_mode n;exact ⟨x,hx⟩,fun tgt args H x h=>by
   unfold il inlT at h
   split at h
   · split at h
     · rename_i c hc
       exact ht _ _ hc _ _ _ h
     · exact (Tr.bad_some h).elim
   · exact (Tr.bad_some h).elim⟩
theorem tW_ok {c:CallT} {f:Nat} {t:Ctr} {A:List AV} {V:AV} (ht:t.Ok c) (h:∀ H,c (.fn f) A H=some (V,H)):(tX t f A V).Ok c:=by
 refine ctG_ok ht (fun args p v hg hp H=>?_)
 unfold gX at hg
 simp only[nP] at hg
 obtain ⟨rfl,rfl⟩:=hg
 rw[hp];exact h H
theorem c32_of {n:Nat} {args:List AV} {H:Heap} {r:AV×Heap} (h:runC Tryz.prog KtB.kt 100000 32 (wO n) args H=some r):cd (n+1) (.fn 32) args H=some r:=by
 have:oraD (cd n) 32 args H=some r:=h
 unfold cd
 rw[show callN Tryz.prog oraD KtB.kt 100000 (n+1) (.fn 32) args H=(match oraD (cd n) 32 args H with
  | some r=>some r
  | none=>_) from rfl,this]
theorem c32_all {n:Nat} {callR:CallTr} {args:List HV} {H H':Heap} {v:AV} {T:Tr (HV×Heap)} (e:bodyT Tryz.prog (wO n) 100000 32 Tryz.f32 (KtB.kt 32) callR noBT noRT args H=T) (hle:Nat.ble args.length Tryz.f32.ntmps=true) (hC:callR.Ok (wO n)) (h:T.all fun y=>y.1.1=v∧y.2=H'):cd (n+1) (.fn 32) (avs args) H=some (v,H'):=by
 obtain ⟨y,h1,h2,h3⟩:=h
 refine c32_of ?_
 rw[runC_T (fn:=Tryz.f32) Tryz.func32 rfl hle hC (noBT_ok _ _) (noRT_ok _ _) (by rw[e];exact h1),h2,h3]
noncomputable def apPV (l:Nat) (z:Nat→Int):AV:=if whoE l z=0 then .tup [dA (srtG (fwA l z)),.int .i64 0] else .tup [.nils,.int .i64 (whoE l z)]
theorem srt_len (L:List Int):(srtG L).length=L.length:=List.length_mergeSort L
theorem c32 (n l:Nat) (z:Nat→Int) (H:Heap):cd (n+13) (.fn 32) [slA 5 l z] H=some (apPV l z,H):=by
 have hc:∀ H,wO (n+12) (.fn 62) [slA 5 l z] H=some (whoV l z,H):=fun H=>c62 n l z H
 unfold apPV
 by_cases h:whoE l z=0
 · rw[if_pos h]
   rw[whoV_ok l z h] at hc
   obtain ⟨h1,h2⟩:=who_ok l z h
   obtain ⟨hl,_⟩:=chk_odd h1
   have hal:=al_len l z
   have hA:dA (dl (smM z) l)=sl1 l (lstO (alL l z)) false:=by
    rw[sm_nd l z h]
    have:=dA_sl (dl (ndM z []) l) (l-1) (by rw[show (dl (ndM z []) l).length=l from al_len l z];omega)
    rw[this,show l-1+1=l by omega];rfl
   have hd:∀ H,wO (n+12) (.fn 64) [.ptrT (some 0) (.G [slA 7 l (oY z l)]) 0] H=some (sl1 l (lstO (alL l z)) false,H):=fun H=>by rw[← hA];exact c64 (n+8) l z H h1
   obtain ⟨k,hk⟩:=fw_ne (z:=z) hl.1
   have hlen:=fw_len l z
   have hk2:k+1≤l:=by rw[← hk];exact hlen
   obtain ⟨b,mb,ho⟩:=o63 (n+8) l z H h k hk
   have ho:wO (n+12) (.fn 63) [.ptrT (some 0) (.G [slA 7 l (oY z l)]) 0,sl1 l (lstO (alL l z)) false] (lvE::H)=some (.tup [.slcT none (.M [.arr .i64 b mb]) 1 (k+1) false,.slc 0 0 0 0 1 (k+1) none],lvO 0 (k+1) (lstO (fwA l z))::H):=ho
   have hAl:(fwA l z).length=k+1:=by unfold fwA;rw[List.length_map];exact hk
   have h74:wO (n+12) (.fn 74) [.slc 0 0 0 0 1 (k+1) none] (lvO 0 (k+1) (lstO (fwA l z))::H)=some (.tup [],lvO 0 (k+1) (lstO (srtG (fwA l z)))::H):=by
    have:=c74 (n+11) (k+1) (lstO (fwA l z)) H (by omega) (by omega)
    rw[← hAl,rw_srt,hAl] at this
    rw[← hAl] at this ⊢
    exact this
   rw[dA_sl _ k (by rw[srt_len];exact hAl)]
   refine c32_all (u32 (n+12) l l (k+1) mb z (oY z l) (lstO (alL l z)) b (lstO (fwA l z)) (lstO (srtG (fwA l z))) H) rfl (il_w0 _ (n+12) (ctE_ok (ctE_ok (tW_ok (tW_ok (noCt_ok _) hc) hd) (fun x hx=>by rw[← Tr.ok_some hx];exact ho)) (fun x hx=>by rw[← Tr.ok_some hx];exact h74))) ?_
   rw[shO_zero]
   repeat' first | (refine Tr.all_ite (fun hc=>?_) (fun hc=>?_)<;>(try simp (disch:=omega) only[nV,nW] at hc)<;>try omega) | (refine Tr.all_req ?_ ?_;· (try simp (disch:=omega) only[nV,nW]);try omega) | (refine Tr.all_reqP ?_ ?_;· first | exact trivial | rfl | exact ⟨rfl,rfl⟩ | exact ⟨rfl,rfl,rfl⟩ | (simp (disch:=omega) only[nV,nW];done) | ((try simp (disch:=omega) only[nV,nW]);omega)) | fail
   all_goals first
    | exact Tr.all_ok ⟨rfl,rfl⟩
    | fail
 · rw[if_neg h]
   have hv:whoV l z=.tup [.nilp,.int .i64 (whoE l z)]:=by unfold whoV;rw[if_neg h]
   rw[hv] at hc
   refine c32_all (u32x (n+12) l z H (whoE l z)) rfl (il_w0 _ (n+12) (tW_ok (noCt_ok _) hc)) ?_
   repeat' first | (refine Tr.all_ite (fun hc=>?_) (fun hc=>?_)<;>(try simp (disch:=omega) only[nV,nW] at hc)<;>try omega) | (refine Tr.all_req ?_ ?_;· (try simp (disch:=omega) only[nV,nW]);try omega) | (refine Tr.all_reqP ?_ ?_;· first | exact trivial | rfl | exact ⟨rfl,rfl⟩ | exact ⟨rfl,rfl,rfl⟩ | (simp (disch:=omega) only[nV,nW];done) | ((try simp (disch:=omega) only[nV,nW]);omega)) | fail
   all_goals first
    | exact Tr.all_ok ⟨rfl,rfl⟩
    | fail
end Go.Eng
end
