/- Bath: a list's copy, which the caller may write to. -/
import Derived.Test.YtigmfpmabgekoaaGreatV10Ba4x6
section
namespace Go.Eng
open Go.Proofs
set_option linter.unusedVariables false
set_option linter.unusedSimpArgs false
set_option maxRecDepth 100000
theorem t68 (n:Nat) (H:Heap) (m:Nat) (z:Nat→Int) (full:Bool) (bs:List (Nat×Blk)):execT (cxD n 68 8) (il noCt n 0) noBT noRT (bodyOf Tryz.f68) (hints [(0,sl1 m z full)]) (lvE::⟨false,bs⟩::H) =
 Tr.req (ltN 0 m) (Tr.ite false (Tr.ok (Ex.ret,[(2,AV.nils,none)],lvE::{ lock:=false,bs:=bs } :: H)) (Tr.ite (eqN m 0) (Tr.ok (Ex.ret,[(2,AV.slc 0 0 0 0 1 0 (some 0),none)],{ lock:=false,bs:=[(0,Blk.row (Row.I .i64 []))] } :: { lock:=false,bs:=bs } :: H)) (Tr.req (roomO 0 m 8) (Tr.req (leN m m) (Tr.req (leN (addO 0 m) m) (Tr.ite (ltN 0 (addO 0 m)) (Tr.req (eqN 0 0) (Tr.req (leN 0 0) (Tr.ok (Ex.ret,[(2,AV.slc 0 1 0 0 1 (addO 0 m) none,none)],{ lock:=false,bs:=[(0,Blk.row (Row.I .i64 [])),(0,Blk.row (Row.M [Seg.arr .i64 (appO (lstO []) 0 z) (addO 0 m)]))] } :: { lock:=false,bs:=bs } :: H)))) (Tr.req (eqN 0 0) Tr.bad))))))):=by kernel_rfl
theorem app_nil (z:Nat→Int):appO (lstO []) 0 z=z:=by rw[appO_fn];funext i;simp
theorem fn_own {n:Nat} {args:List AV} {l1:Lvl} {H:Heap} {fn:Func} {c:Code} (hf:Tryz.prog.funcs[68]?=some fn) (hb:fn.body=some c) (hle:Nat.ble args.length fn.ntmps=true) {e:Ex} {fr:Frm} {l:Lvl} {j ver off sz len:Nat} {cap:Option Nat} {q:Row}
 (h:exec (cxD n 68 fn.ntmps) c (argFrm 0 args) (⟨false,[]⟩::l1::H)=some (e,fr,l::l1::H)) (he:e=.normal∨e=.ret) (hv:resV Tryz.prog fr (l::l1::H) fn.results.toList=some [.slc 0 j ver off sz len cap]) (hq:hRow (l::l1::H) 0 j ver=some q) (h0:l.lock=false) (h1:l1.lock=false) :
 cd (n+1) (.fn 68) args (l1::H)=some (.slc 0 l1.bs.length 0 off sz len cap,hPushAt (l1::H) 0 (.row (dnR 1 q))):=by
 have:oraD (cd n) 68 args (l1::H)=some (.slc 0 l1.bs.length 0 off sz len cap,hPushAt (l1::H) 0 (.row (dnR 1 q))):=by
  show oCall Tryz.prog KtB.kt 100000 68 (cd n) args (l1::H)=_
  unfold oCall
  rw[hf];dsimp only
  rw[hb];dsimp only
  rw[if_pos hle,execX_eq]
  rw[show exec (⟨Tryz.prog,cd n,100000,68,fn.ntmps,KtB.kt 68,none⟩:Cx) c (argFrm 0 args) (⟨false,[]⟩::l1::H)=_ from h]
  dsimp only
  rcases he with rfl | rfl<;>(simp only[hv,hq,h0,h1,Bool.or_self,Bool.false_eq_true,if_false])
 unfold cd
 rw[show callN Tryz.prog oraD KtB.kt 100000 (n+1) (.fn 68) args (l1::H)=(match oraD (cd n) 68 args (l1::H) with
  | some r=>some r
  | none=>_) from rfl,this]
theorem c68 (n:Nat) (H:Heap) (m:Nat) (z:Nat→Int) (full:Bool) (bs:List (Nat×Blk)) (h1:1≤m) (h2:m≤1000):cd (n+1) (.fn 68) [sl1 m z full] (⟨false,bs⟩::H)=some (.slc 0 bs.length 0 0 1 m none,⟨false,bs++[(0,.row (.M [.arr .i64 z m]))]⟩::H):=by
 obtain ⟨x,hx,hy⟩:=ex_all (Q:=fun x=>x=(.ret,[(2,.slc 0 1 0 0 1 m none)],(⟨false,[(0,.row (.I .i64 [])),(0,.row (.M [.arr .i64 z m]))]⟩:Lvl)::⟨false,bs⟩::H)) (fr:=[(0,sl1 m z full)]) (t68 n H m z full bs) (il_no0 n) (noBT_ok _ _) (noRT_ok _ _) (by
  rw[app_nil,show addO 0 m=m by rw[addO_eq,Nat.zero_add]]
  repeat' first | (refine Tr.all_ite (fun hc=>?_) (fun hc=>?_)<;>(try simp (disch:=omega) only[nV,nW] at hc)<;>try omega) | (refine Tr.all_req ?_ ?_;· (try simp (disch:=omega) only[nV,nW]);try omega) | (refine Tr.all_reqP ?_ ?_;· first | exact trivial | rfl | exact ⟨rfl,rfl⟩ | exact ⟨rfl,rfl,rfl⟩ | (simp (disch:=omega) only[nV,nW];done) | ((try simp (disch:=omega) only[nV,nW]);omega)) | fail
  all_goals first
   | exact Tr.all_ok rfl
   | fail)
 subst hy
 have e8:Tryz.f68.ntmps=8:=by kernel_rfl
 have eb:Tryz.f68.body=some (bodyOf Tryz.f68):=by kernel_rfl
 have er:Tryz.f68.results.toList=[.tmp 2]:=by kernel_rfl
 refine fn_own (fn:=Tryz.f68) (c:=bodyOf Tryz.f68) (l1:=⟨false,bs⟩) Tryz.func68 eb (by rw[e8];rfl) (e:=.ret) (fr:=[(2,.slc 0 1 0 0 1 m none)]) (l:=⟨false,[(0,.row (.I .i64 [])),(0,.row (.M [.arr .i64 z m]))]⟩) (j:=1) (ver:=0) (q:=.M [.arr .i64 z m]) (by rw[e8];exact hx) (.inr rfl) (by rw[er];rfl) rfl rfl rfl
end Go.Eng
end
section
namespace Go.Eng
open Go.Proofs
set_option linter.unusedVariables false
set_option linter.unusedSimpArgs false
set_option maxRecDepth 100000
noncomputable def fr64 (L:AV) (l:Nat) (y:Nat→Int) (j:Int):Frm:=[(3,L),(9,slA 7 l y),(10,.int .i64 (Int.ofNat l)),(11,.int .i64 j)]
theorem t64a (n:Nat) (l:Nat) (y:Nat→Int) (H:Heap) (j:Int):execT (cxD (n+3) 64 24) (il noCt (n+1) 2) noBT noRT (part Tryz.f64 [1,1,0,1,0,0]) (hints (fr64 .nils l y j)) (lvE::H) =
 (fun (Z0:Nat×Blk)=>Tr.ite (ltI j (Int.ofNat l)) (Tr.req (inI j l) (Tr.req (ltN (idO 0 j 7) (mulO l 7)) (Tr.req (ltN (addO (idO 0 j 7) 1) (mulO l 7)) (Tr.req (ltN (addO (idO 0 j 7) 2) (mulO l 7)) (Tr.req (ltN (addO (idO 0 j 7) 3) (mulO l 7)) (Tr.req (ltN (addO (idO 0 j 7) 4) (mulO l 7)) (Tr.req (ltN (addO (idO 0 j 7) 5) (mulO l 7)) (Tr.req (ltN (addO (idO 0 j 7) 6) (mulO l 7)) (Tr.ite (leI (y (addO (idO 0 j 7) 5)) (y (addO (idO 0 j 7) 6))) (Tr.req (roomO 0 1 8) (Tr.req (eqN 0 0) (Tr.req (leN 1 1) (Tr.ok (Ex.normal,[(3,AV.slc 0 2 0 0 1 1 none,none),(9,slA 7 l y,none),(10,AV.int .i64 (Int.ofNat l),none),(11,AV.int .i64 (addI .i64 j (Int.ofNat 1)),none)],{ lock:=false,bs:=[Z0,(0,Blk.row (Row.I .i64 [j])),(0,Blk.row (Row.M [Seg.arr .i64 (lstO [j]) 1]))] } :: H))))) (Tr.ok (Ex.normal,[(3,AV.nils,none),(9,slA 7 l y,none),(10,AV.int .i64 (Int.ofNat l),none),(11,AV.int .i64 (addI .i64 j (Int.ofNat 1)),none)],{ lock:=false,bs:=[Z0] } :: H))))))))))) (Tr.ok (Ex.exit 0,[(3,AV.nils,none),(9,slA 7 l y,none),(10,AV.int .i64 (Int.ofNat l),none),(11,AV.int .i64 j,none),(12,AV.bool false,some 1)],lvE::H))) (0,Blk.row (Row.I .i64 [y (idO 0 j 7),y (addO (idO 0 j 7) 1),y (addO (idO 0 j 7) 2),y (addO (idO 0 j 7) 3),y (addO (idO 0 j 7) 4),y (addO (idO 0 j 7) 5),y (addO (idO 0 j 7) 6)])):=by kernel_rfl
theorem t64b (n:Nat) (l:Nat) (y g:Nat→Int) (H:Heap) (j:Int) (v k:Nat):execT (cxD (n+3) 64 24) (il noCt (n+1) 2) noBT noRT (part Tryz.f64 [1,1,0,1,0,0]) (hints (fr64 (.slc 0 0 v 0 1 k none) l y j)) (⟨false,[(v,.row (.M [.arr .i64 g k]))]⟩::H) =
 (fun (Z0:Nat×Blk)=>Tr.ite (ltI j (Int.ofNat l)) (Tr.req (inI j l) (Tr.req (ltN (idO 0 j 7) (mulO l 7)) (Tr.req (ltN (addO (idO 0 j 7) 1) (mulO l 7)) (Tr.req (ltN (addO (idO 0 j 7) 2) (mulO l 7)) (Tr.req (ltN (addO (idO 0 j 7) 3) (mulO l 7)) (Tr.req (ltN (addO (idO 0 j 7) 4) (mulO l 7)) (Tr.req (ltN (addO (idO 0 j 7) 5) (mulO l 7)) (Tr.req (ltN (addO (idO 0 j 7) 6) (mulO l 7)) (Tr.ite (leI (y (addO (idO 0 j 7) 5)) (y (addO (idO 0 j 7) 6))) (Tr.req (roomO k 1 8) (Tr.req (eqN 0 0) (Tr.req (leN 1 1) (Tr.req (eqN v v) (Tr.req (eqN (addO 0 k) k) (Tr.ok (Ex.normal,[(3,AV.slc 0 0 (Nat.succ v) 0 1 (addO k 1) none,none),(9,slA 7 l y,none),(10,AV.int .i64 (Int.ofNat l),none),(11,AV.int .i64 (addI .i64 j (Int.ofNat 1)),none)],{ lock:=false,bs:=[(Nat.succ v,Blk.row (Row.M [Seg.arr .i64 (appO (shO g 0) k (lstO [j])) (addO k 1)])),Z0,(0,Blk.row (Row.I .i64 [j]))] } :: H))))))) (Tr.ok (Ex.normal,[(3,AV.slc 0 0 v 0 1 k none,none),(9,slA 7 l y,none),(10,AV.int .i64 (Int.ofNat l),none),(11,AV.int .i64 (addI .i64 j (Int.ofNat 1)),none)],{ lock:=false,bs:=[(v,Blk.row (Row.M [Seg.arr .i64 g k])),Z0] } :: H))))))))))) (Tr.ok (Ex.exit 0,[(3,AV.slc 0 0 v 0 1 k none,none),(9,slA 7 l y,none),(10,AV.int .i64 (Int.ofNat l),none),(11,AV.int .i64 j,none),(12,AV.bool false,some 1)],{ lock:=false,bs:=[(v,Blk.row (Row.M [Seg.arr .i64 g k]))] } :: H))) (0,Blk.row (Row.I .i64 [y (idO 0 j 7),y (addO (idO 0 j 7) 1),y (addO (idO 0 j 7) 2),y (addO (idO 0 j 7) 3),y (addO (idO 0 j 7) 4),y (addO (idO 0 j 7) 5),y (addO (idO 0 j 7) 6)])):=by kernel_rfl
theorem u64p (n:Nat) (l:Nat) (y:Nat→Int) (H:Heap):bodyT Tryz.prog (cd (n+3)) 100000 64 Tryz.f64 (KtB.kt 64) (il noCt (n+1) 2) (blkE noBT 0 (fr64 .nils l y 0) (lvE::H) (.ok (.normal,hints (fr64 .nils l y (Int.ofNat l)++[(12,.bool false)]),lvE::H))) noRT [(.ptrT (some 0) (.G [slA 7 l y]) 0,none)] H =
 (fun (Z0:Frm)=>Tr.reqP (Z0=Z0∧lvE::H=lvE::H) (Tr.ok ((AV.nils,none),H))) [(3,AV.nils),(9,slA 7 l y),(10,AV.int .i64 (Int.ofNat l)),(11,AV.int .i64 (Int.ofNat 0))]:=by kernel_rfl
theorem u64q (n:Nat) (l:Nat) (y g:Nat→Int) (H:Heap) (v k:Nat):bodyT Tryz.prog (cd (n+3)) 100000 64 Tryz.f64 (KtB.kt 64) (il noCt (n+1) 2) (blkE noBT 0 (fr64 .nils l y 0) (lvE::H) (.ok (.normal,hints (fr64 (.slc 0 0 v 0 1 k none) l y (Int.ofNat l)++[(12,.bool false)]),⟨false,[(v,.row (.M [.arr .i64 g k]))]⟩::H))) noRT [(.ptrT (some 0) (.G [slA 7 l y]) 0,none)] H =
 (fun (Z0:Frm)=>Tr.reqP (Z0=Z0∧lvE::H=lvE::H) (Tr.req (eqN v v) (Tr.req (inO 0 k 0 k) (Tr.ok ((AV.slcT none (Row.M [Seg.arr .i64 (shO g 0) k]) 1 k false,none),H))))) [(3,AV.nils),(9,slA 7 l y),(10,AV.int .i64 (Int.ofNat l)),(11,AV.int .i64 (Int.ofNat 0))]:=by kernel_rfl
theorem u62n (n:Nat) (l:Nat) (z y:Nat→Int) (H:Heap):bodyT Tryz.prog (cd (n+11)) 100000 62 Tryz.f62 (KtB.kt 62) (il (ctG (ctG noCt 52 (gO (slA 5 l z) (.tup [.ptrT (some 0) (.G [slA 7 l y]) 0,.int .i64 0]))) 64 (gO (.ptrT (some 0) (.G [slA 7 l y]) 0) .nils)) (n+10) 1) noBT noRT [(slA 5 l z,none)] H =
 Tr.reqP (slA 5 l z=slA 5 l z) (Tr.ite (notB (eqI (Int.ofNat 0) (Int.ofNat 0))) (Tr.ok ((AV.tup [AV.nilp,AV.int .i64 (Int.ofNat 0)],none),H)) (Tr.reqP (AV.ptrT (some 0) (Row.G [slA 7 l y]) 0=AV.ptrT (some 0) (Row.G [slA 7 l y]) 0) (Tr.ite (ltI (Int.ofNat 0) (Int.ofNat l)) (Tr.ok ((AV.tup [AV.nilp,AV.int .i64 (Int.ofNat 22)],none),H)) (Tr.ok ((AV.tup [AV.ptrT (some 0) (Row.G [slA 7 l y]) 0,AV.int .i64 (Int.ofNat 0)],none),H))))):=by kernel_rfl
theorem u62c (n:Nat) (l:Nat) (z y g:Nat→Int) (H:Heap) (k:Nat):bodyT Tryz.prog (cd (n+11)) 100000 62 Tryz.f62 (KtB.kt 62) (il (ctG (ctG noCt 52 (gO (slA 5 l z) (.tup [.ptrT (some 0) (.G [slA 7 l y]) 0,.int .i64 0]))) 64 (gO (.ptrT (some 0) (.G [slA 7 l y]) 0) (sl1 k g false))) (n+10) 1) noBT noRT [(slA 5 l z,none)] H =
 Tr.reqP (slA 5 l z=slA 5 l z) (Tr.ite (notB (eqI (Int.ofNat 0) (Int.ofNat 0))) (Tr.ok ((AV.tup [AV.nilp,AV.int .i64 (Int.ofNat 0)],none),H)) (Tr.reqP (AV.ptrT (some 0) (Row.G [slA 7 l y]) 0=AV.ptrT (some 0) (Row.G [slA 7 l y]) 0) (Tr.ite (ltI (Int.ofNat k) (Int.ofNat l)) (Tr.ok ((AV.tup [AV.nilp,AV.int .i64 (Int.ofNat 22)],none),H)) (Tr.ok ((AV.tup [AV.ptrT (some 0) (Row.G [slA 7 l y]) 0,AV.int .i64 (Int.ofNat 0)],none),H))))):=by kernel_rfl
theorem u62x (n:Nat) (l:Nat) (z y g:Nat→Int) (H:Heap) (e:Int):bodyT Tryz.prog (cd (n+11)) 100000 62 Tryz.f62 (KtB.kt 62) (il (ctG (ctG noCt 52 (gO (slA 5 l z) (.tup [.nilp,.int .i64 e]))) 64 (fun _=>none)) (n+10) 1) noBT noRT [(slA 5 l z,none)] H =
 Tr.reqP (slA 5 l z=slA 5 l z) (Tr.ite (notB (eqI e (Int.ofNat 0))) (Tr.ok ((AV.tup [AV.nilp,AV.int .i64 e],none),H)) Tr.bad):=by kernel_rfl
def smM (z:Nat→Int) (i:Nat):Int:=if bLo z i≤bHi z i then 1 else 0
theorem b64:∀ b,(0,b) ∈ blocksOf (bodyOf Tryz.f64)→b=.loop (part Tryz.f64 [1,1,0,1,0,0]):=by
 have:((blocksOf (bodyOf Tryz.f64)).filter fun x=>Nat.beq x.1 0)=[(0,.loop (part Tryz.f64 [1,1,0,1,0,0]))]:=by kernel_rfl
 intro b hb
 have hm:(0,b) ∈ ((blocksOf (bodyOf Tryz.f64)).filter fun x=>Nat.beq x.1 0):=List.mem_filter.2 ⟨hb,rfl⟩
 rw[this] at hm;simpa using hm
section
variable (n:Nat) (l:Nat) (z:Nat→Int) (H:Heap)
theorem l64 (h:chkO l z=0):exec (cxD (n+3) 64 24) (.block 0 (.loop (part Tryz.f64 [1,1,0,1,0,0]))) (fr64 .nils l (oY z l) 0) (lvE::H)=some (.normal,fr64 (dW (dl (smM z) l)) l (oY z l) (Int.ofNat l)++[(12,.bool false)],dLw (dl (smM z) l)::H):=by
 obtain ⟨hl,hb⟩:=chk_odd h
 have:=forX (n:=n+3) (f:=64) (nt:=24) (c:=part Tryz.f64 [1,1,0,1,0,0]) 0 (fun j=>fr64 (dW (dl (smM z) j)) l (oY z l) (j:Int)) (fun j=>dLw (dl (smM z) j)::H) l (fr64 (dW (dl (smM z) l)) l (oY z l) (Int.ofNat l)++[(12,.bool false)],dLw (dl (smM z) l)::H) (by omega) (fun j hj=>?_) ?_
 · exact this
 · have ej:addI .i64 (j:Int) (Int.ofNat 1)=((j+1:Nat):Int):=by rw[addI_eq,show Int.ofNat 1=1 from rfl];exact wr_64 (by omega) (by omega)
   have ei:idO 0 (j:Int) 7=j*7:=by rw[idO_eq];omega
   have hm:=dl_len (smM z) j
   have hd:dl (smM z) (j+1)=if smM z j=1 then dl (smM z) j++[(j:Int)] else dl (smM z) j:=rfl
   have ht:smM z j=1↔bLo z j≤bHi z j:=by unfold smM;simp
   have h5:oY z l (j*7+5)=bLo z j:=oY_at z (by omega) (by omega)
   have h6:oY z l (j*7+6)=bHi z j:=oY_at z (by omega) (by omega)
   cases e:dl (smM z) j with
   | nil =>
     rw[e] at hd
     refine ex_all (t64a n l (oY z l) H (j:Int)) (il_no (n+1) 2) (noBT_ok _ _) (noRT_ok _ _) ?_
     simp only[ei,addO_eq]
     rw[ej,h5,h6]
     generalize bLo z j=lo at *
     generalize bHi z j=hi at *
     generalize dl (smM z) (j+1)=D at *
     generalize smM z j=mj at *
     repeat' first | (refine Tr.all_ite (fun hc=>?_) (fun hc=>?_)<;>(try simp (disch:=omega) only[nV,nW] at hc)<;>try omega) | (refine Tr.all_req ?_ ?_;· (try simp (disch:=omega) only[nV,nW]);try omega) | (refine Tr.all_reqP ?_ ?_;· first | exact trivial | rfl | exact ⟨rfl,rfl⟩ | exact ⟨rfl,rfl,rfl⟩ | (simp (disch:=omega) only[nV,nW];done) | ((try simp (disch:=omega) only[nV,nW]);omega)) | fail
     all_goals first
      | (rw[if_pos (by omega)] at hd;subst hd;exact Tr.all_ok ⟨rfl,rfl⟩)
      | (rw[if_neg (by omega)] at hd;subst hd;exact Tr.all_ok ⟨rfl,rfl⟩)
      | fail
   | cons a r =>
     rw[e] at hd hm
     have e1:=lst_app (a::r) (j:Int)
     simp only[List.length_cons] at hm e1
     have e3:addO (r.length+1) 1=r.length+1+1:=by rw[addO_eq]
     refine ex_all (t64b n l (oY z l) (lstO (a::r)) H (j:Int) r.length (r.length+1)) (il_no (n+1) 2) (noBT_ok _ _) (noRT_ok _ _) ?_
     rw[e1,e3]
     simp only[ei,addO_eq]
     rw[ej,h5,h6]
     generalize bLo z j=lo at *
     generalize bHi z j=hi at *
     generalize hD:dl (smM z) (j+1)=D at *
     generalize smM z j=mj at *
     have e4:(r++[(j:Int)]).length=r.length+1:=by simp
     repeat' first | (refine Tr.all_ite (fun hc=>?_) (fun hc=>?_)<;>(try simp (disch:=omega) only[nV,nW] at hc)<;>try omega) | (refine Tr.all_req ?_ ?_;· (try simp (disch:=omega) only[nV,nW]);try omega) | (refine Tr.all_reqP ?_ ?_;· first | exact trivial | rfl | exact ⟨rfl,rfl⟩ | exact ⟨rfl,rfl,rfl⟩ | (simp (disch:=omega) only[nV,nW];done) | ((try simp (disch:=omega) only[nV,nW]);omega)) | fail
     all_goals first
      | (rw[if_pos (by omega)] at hd;subst hd
         refine Tr.all_ok ⟨rfl,?_⟩
         show _=(fr64 (.slc 0 0 (r++[(j:Int)]).length 0 1 ((r++[(j:Int)]).length+1) none) l (oY z l) ((j+1:Nat):Int),(⟨false,[((r++[(j:Int)]).length,.row (.M [.arr .i64 (lstO (a::r++[(j:Int)])) ((r++[(j:Int)]).length+1)]))]⟩:Lvl)::H)
         rw[e4];rfl)
      | (rw[if_neg (by omega)] at hd;subst hd;exact Tr.all_ok ⟨rfl,rfl⟩)
      | fail
 · cases e:dl (smM z) l with
   | nil =>
     obtain ⟨x,h1,rfl⟩:=ex_all (Q:=fun x=>x=(.exit 0,fr64 .nils l (oY z l) (Int.ofNat l)++[(12,.bool false)],lvE::H)) (t64a n l (oY z l) H (Int.ofNat l)) (il_no (n+1) 2) (noBT_ok _ _) (noRT_ok _ _) (by
      repeat' first | (refine Tr.all_ite (fun hc=>?_) (fun hc=>?_)<;>(try simp (disch:=omega) only[nV,nW] at hc)<;>try omega) | (refine Tr.all_req ?_ ?_;· (try simp (disch:=omega) only[nV,nW]);try omega) | (refine Tr.all_reqP ?_ ?_;· first | exact trivial | rfl | exact ⟨rfl,rfl⟩ | exact ⟨rfl,rfl,rfl⟩ | (simp (disch:=omega) only[nV,nW];done) | ((try simp (disch:=omega) only[nV,nW]);omega)) | fail
      all_goals exact Tr.all_ok rfl)
     exact h1
   | cons a r =>
     obtain ⟨x,h1,rfl⟩:=ex_all (Q:=fun x=>x=(.exit 0,fr64 (.slc 0 0 r.length 0 1 (r.length+1) none) l (oY z l) (Int.ofNat l)++[(12,.bool false)],(⟨false,[(r.length,.row (.M [.arr .i64 (lstO (a::r)) (r.length+1)]))]⟩:Lvl)::H)) (t64b n l (oY z l) (lstO (a::r)) H (Int.ofNat l) r.length (r.length+1)) (il_no (n+1) 2) (noBT_ok _ _) (noRT_ok _ _) (by
      repeat' first | (refine Tr.all_ite (fun hc=>?_) (fun hc=>?_)<;>(try simp (disch:=omega) only[nV,nW] at hc)<;>try omega) | (refine Tr.all_req ?_ ?_;· (try simp (disch:=omega) only[nV,nW]);try omega) | (refine Tr.all_reqP ?_ ?_;· first | exact trivial | rfl | exact ⟨rfl,rfl⟩ | exact ⟨rfl,rfl,rfl⟩ | (simp (disch:=omega) only[nV,nW];done) | ((try simp (disch:=omega) only[nV,nW]);omega)) | fail
      all_goals exact Tr.all_ok rfl)
     exact h1
theorem c64 (h:chkO l z=0):cd (n+4) (.fn 64) [bookV l z] H=some (dA (dl (smM z) l),H):=by
 have hx:=l64 n l z H h
 cases e:dl (smM z) l with
 | nil =>
   rw[e] at hx
   refine fn_all (n:=n+3) Tryz.func64 rfl rfl rfl (u64p n l (oY z l) H) (il_no (n+1) 2) (blkE_ok (noBT_ok _ _) b64 (fun x h=>by rw[← Tr.ok_some h];simp only[Res.st,hints_eq];exact hx)) (noRT_ok _ _) ?_
   repeat' first | (refine Tr.all_ite (fun hc=>?_) (fun hc=>?_)<;>(try simp (disch:=omega) only[nV,nW] at hc)<;>try omega) | (refine Tr.all_req ?_ ?_;· (try simp (disch:=omega) only[nV,nW]);try omega) | (refine Tr.all_reqP ?_ ?_;· first | exact trivial | rfl | exact ⟨rfl,rfl⟩ | exact ⟨rfl,rfl,rfl⟩ | (simp (disch:=omega) only[nV,nW];done) | ((try simp (disch:=omega) only[nV,nW]);omega)) | fail
   all_goals first
    | exact Tr.all_ok ⟨rfl,rfl⟩
    | fail
 | cons a r =>
   rw[e] at hx
   refine fn_all (n:=n+3) Tryz.func64 rfl rfl rfl (u64q n l (oY z l) (lstO (a::r)) H r.length (r.length+1)) (il_no (n+1) 2) (blkE_ok (noBT_ok _ _) b64 (fun x h=>by rw[← Tr.ok_some h];simp only[Res.st,hints_eq];exact hx)) (noRT_ok _ _) ?_
   rw[shO_zero]
   repeat' first | (refine Tr.all_ite (fun hc=>?_) (fun hc=>?_)<;>(try simp (disch:=omega) only[nV,nW] at hc)<;>try omega) | (refine Tr.all_req ?_ ?_;· (try simp (disch:=omega) only[nV,nW]);try omega) | (refine Tr.all_reqP ?_ ?_;· first | exact trivial | rfl | exact ⟨rfl,rfl⟩ | exact ⟨rfl,rfl,rfl⟩ | (simp (disch:=omega) only[nV,nW];done) | ((try simp (disch:=omega) only[nV,nW]);omega)) | fail
   all_goals first
    | exact Tr.all_ok ⟨rfl,rfl⟩
    | fail
def whoE (l:Nat) (z:Nat→Int):Int:=if chkO l z≠0 then chkO l z else if (dl (smM z) l).length<l then 22 else 0
noncomputable def whoV (l:Nat) (z:Nat→Int):AV:=if whoE l z=0 then .tup [bookV l z,.int .i64 0] else .tup [.nilp,.int .i64 (whoE l z)]
theorem ctV1 {f k:Nat} {t:Ctr} {A V:AV} (ht:t.Ok (cd k)) (h:∀ H,cd k (.fn f) [A] H=some (V,H)):(ctG t f (gO A V)).Ok (cd k):=by
 refine ctG_ok ht (fun args p v hg hp H=>?_)
 unfold gO at hg
 split at hg
 · simp only[nP] at hg
   obtain ⟨rfl,rfl⟩:=hg
   subst hp
   exact h H
 · cases hg
theorem c62:cd (n+12) (.fn 62) [slA 5 l z] H=some (whoV l z,H):=by
 have hc:∀ k H,cd (n+10+k) (.fn 52) [slA 5 l z] H=some (opnV l z,H):=fun k H=>by rw[show n+10+k=n+k+10 by omega];exact c52 _ l z H
 by_cases h:chkO l z=0
 · have ho:opnV l z=.tup [.ptrT (some 0) (.G [slA 7 l (oY z l)]) 0,.int .i64 0]:=by unfold opnV;rw[if_pos h];rfl
   rw[ho] at hc
   have hd:∀ k H,cd (n+10+k) (.fn 64) [.ptrT (some 0) (.G [slA 7 l (oY z l)]) 0] H=some (dA (dl (smM z) l),H):=fun k H=>by rw[show n+10+k=n+6+k+4 by omega];exact c64 _ l z H h
   obtain ⟨hl,_⟩:=chk_odd h
   have hw:whoE l z=if (dl (smM z) l).length<l then 22 else 0:=by unfold whoE;rw[if_neg (fun x=>x h)]
   unfold whoV
   cases e:dl (smM z) l with
   | nil =>
     rw[e] at hd hw
     rw[if_pos (show ([]:List Int).length<l by simp;omega)] at hw
     rw[hw,if_neg (by decide)]
     refine fn_all (n:=n+11) Tryz.func62 rfl rfl rfl (u62n n l z (oY z l) H) (il_ok _ (n+10) 1 (fun k=>ctV1 (ctV1 (noCt_ok _) (hc k)) (hd k))) (noBT_ok _ _) (noRT_ok _ _) ?_
     repeat' first | (refine Tr.all_ite (fun hc=>?_) (fun hc=>?_)<;>(try simp (disch:=omega) only[nV,nW] at hc)<;>try omega) | (refine Tr.all_req ?_ ?_;· (try simp (disch:=omega) only[nV,nW]);try omega) | (refine Tr.all_reqP ?_ ?_;· first | exact trivial | rfl | exact ⟨rfl,rfl⟩ | exact ⟨rfl,rfl,rfl⟩ | (simp (disch:=omega) only[nV,nW];done) | ((try simp (disch:=omega) only[nV,nW]);omega)) | fail
     all_goals first
      | exact Tr.all_ok ⟨rfl,rfl⟩
      | fail
   | cons a r =>
     rw[e,List.length_cons] at hw
     rw[e] at hd
     refine fn_all (n:=n+11) Tryz.func62 rfl rfl rfl (u62c n l z (oY z l) (lstO (a::r)) H (r.length+1)) (il_ok _ (n+10) 1 (fun k=>ctV1 (ctV1 (noCt_ok _) (hc k)) (hd k))) (noBT_ok _ _) (noRT_ok _ _) ?_
     by_cases hx:r.length+1<l
     · rw[if_pos hx] at hw
       rw[hw,if_neg (by decide)]
       repeat' first | (refine Tr.all_ite (fun hc=>?_) (fun hc=>?_)<;>(try simp (disch:=omega) only[nV,nW] at hc)<;>try omega) | (refine Tr.all_req ?_ ?_;· (try simp (disch:=omega) only[nV,nW]);try omega) | (refine Tr.all_reqP ?_ ?_;· first | exact trivial | rfl | exact ⟨rfl,rfl⟩ | exact ⟨rfl,rfl,rfl⟩ | (simp (disch:=omega) only[nV,nW];done) | ((try simp (disch:=omega) only[nV,nW]);omega)) | fail
       all_goals first
        | exact Tr.all_ok ⟨rfl,rfl⟩
        | fail
     · rw[if_neg hx] at hw
       rw[hw,if_pos rfl]
       repeat' first | (refine Tr.all_ite (fun hc=>?_) (fun hc=>?_)<;>(try simp (disch:=omega) only[nV,nW] at hc)<;>try omega) | (refine Tr.all_req ?_ ?_;· (try simp (disch:=omega) only[nV,nW]);try omega) | (refine Tr.all_reqP ?_ ?_;· first | exact trivial | rfl | exact ⟨rfl,rfl⟩ | exact ⟨rfl,rfl,rfl⟩ | (simp (disch:=omega) only[nV,nW];done) | ((try simp (disch:=omega) only[nV,nW]);omega)) | fail
       all_goals first
        | exact Tr.all_ok ⟨rfl,rfl⟩
        | fail
 · have ho:opnV l z=.tup [.nilp,.int .i64 (chkO l z)]:=by unfold opnV;rw[if_neg h]
   rw[ho] at hc
   have hw:whoE l z=chkO l z:=by unfold whoE;rw[if_pos h]
   unfold whoV
   rw[hw,if_neg h]
   refine fn_all (n:=n+11) Tryz.func62 rfl rfl rfl (u62x n l z z z H (chkO l z)) (il_ok _ (n+10) 1 (fun k=>ctG_ok (ctV1 (noCt_ok _) (hc k)) (fun args p v hg hp H=>by cases hg))) (noBT_ok _ _) (noRT_ok _ _) ?_
   repeat' first | (refine Tr.all_ite (fun hc=>?_) (fun hc=>?_)<;>(try simp (disch:=omega) only[nV,nW] at hc)<;>try omega) | (refine Tr.all_req ?_ ?_;· (try simp (disch:=omega) only[nV,nW]);try omega) | (refine Tr.all_reqP ?_ ?_;· first | exact trivial | rfl | exact ⟨rfl,rfl⟩ | exact ⟨rfl,rfl,rfl⟩ | (simp (disch:=omega) only[nV,nW];done) | ((try simp (disch:=omega) only[nV,nW]);omega)) | fail
   all_goals first
    | exact Tr.all_ok ⟨rfl,rfl⟩
    | fail
end
end Go.Eng
end
section
namespace Go.Eng
open Go.Proofs
set_option linter.unusedVariables false
set_option linter.unusedSimpArgs false
set_option maxRecDepth 100000
noncomputable def bx63 (l:Nat) (y:Nat→Int):Nat×Blk:=(0,.row (.G [.ptrT (some 1) (.G [slA 7 l y]) 0]))
noncomputable def fr85 (m:Nat) (z:Nat→Int) (i j:Int):Frm:=[(1,.fn (.func 86) [] [.ptr 1 0 0 0]),(5,.int .i64 i),(12,.slcT none (.M [.arr .i64 (shO z 1) (subO m 1)]) 1 (subO m 1) false),(13,.int .i64 (Int.ofNat (subO m 1))),(14,.int .i64 j)]
theorem t85 (n l:Nat) (y z:Nat→Int) (m:Nat) (bs:List (Nat×Blk)) (H:Heap) (i j:Int):execT (cxD (n+1) 85 28) (il noCt n 1) noBT noRT (part Tryz.f85 [1,1,0,1,0,0]) (hints (fr85 m z i j)) (lvE::⟨false,bx63 l y::bs⟩::H) =
 (fun (Z0:Lvl)=>((fun (Z1:Nat×AV×Option Nat)=>Tr.ite (ltI j (Int.ofNat (subO m 1))) (Tr.req (inI j (subO m 1)) (Tr.req (ltN (idO 0 j 1) (subO m 1)) (Tr.req (inI (shO z 1 (idO 0 j 1)) l) (Tr.req (ltN (addO (addO (idO 0 (shO z 1 (idO 0 j 1)) 7) 5) 1) (mulO l 7)) (Tr.req (inI i l) (Tr.req (ltN (addO (addO (idO 0 i 7) 5) 1) (mulO l 7)) (Tr.ite (ltI (y (addO (addO (idO 0 (shO z 1 (idO 0 j 1)) 7) 5) 1)) (y (addO (addO (idO 0 i 7) 5) 1))) (Tr.ok (Ex.normal,[(1,AV.fn (Fn.func 86) [] [AV.ptr 1 0 0 0],none),(5,AV.int .i64 (shO z 1 (idO 0 j 1)),none),Z1,(13,AV.int .i64 (Int.ofNat (subO m 1)),none),(14,AV.int .i64 (addI .i64 j (Int.ofNat 1)),none)],lvE::Z0::H)) (Tr.ok (Ex.normal,[(1,AV.fn (Fn.func 86) [] [AV.ptr 1 0 0 0],none),(5,AV.int .i64 i,none),Z1,(13,AV.int .i64 (Int.ofNat (subO m 1)),none),(14,AV.int .i64 (addI .i64 j (Int.ofNat 1)),none)],lvE::Z0::H))))))))) (Tr.ok (Ex.exit 0,[(1,AV.fn (Fn.func 86) [] [AV.ptr 1 0 0 0],none),(5,AV.int .i64 i,none),Z1,(13,AV.int .i64 (Int.ofNat (subO m 1)),none),(14,AV.int .i64 j,none),(15,AV.bool false,some 1)],lvE::Z0::H))) (12,AV.slcT none (Row.M [Seg.arr .i64 (shO z 1) (subO m 1)]) 1 (subO m 1) false,none))) { lock:=false,bs:=(0,Blk.row (Row.G [AV.ptrT (some 1) (Row.G [slA 7 l y]) 0]))::bs }:=by kernel_rfl
theorem u85 (n l:Nat) (y z:Nat→Int) (m:Nat) (bs:List (Nat×Blk)) (H:Heap) (i:Int):bodyT Tryz.prog (cd (n+1)) 100000 85 Tryz.f85 (KtB.kt 85) (il noCt n 1) (blkE noBT 0 (fr85 m z (z 0) 0) (lvE::⟨false,bx63 l y::bs⟩::H) (.ok (.normal,hints (fr85 m z i (Int.ofNat (subO m 1))++[(15,.bool false)]),lvE::⟨false,bx63 l y::bs⟩::H))) noRT [(sl1 m z false,none),(.fn (.func 86) [] [.ptr 0 0 0 0],none)] (⟨false,bx63 l y::bs⟩::H) =
 (fun (Z0:Lvl)=>Tr.req (inI (Int.ofNat 0) m) (Tr.req (ltN 0 m) (Tr.req (bndI (Int.ofNat 1) m) (Tr.req (leN (addO (toN (Int.ofNat 1)) (subO m (toN (Int.ofNat 1)))) m) (Tr.reqP ([(1,AV.fn (Fn.func 86) [] [AV.ptr 1 0 0 0]),(5,AV.int .i64 (z 0)),(12,AV.slcT none (Row.M [Seg.arr .i64 (shO z (toN (Int.ofNat 1))) (subO m (toN (Int.ofNat 1)))]) 1 (subO m (toN (Int.ofNat 1))) false),(13,AV.int .i64 (Int.ofNat (subO m (toN (Int.ofNat 1))))),(14,AV.int .i64 (Int.ofNat 0))]=[(1,AV.fn (Fn.func 86) [] [AV.ptr 1 0 0 0]),(5,AV.int .i64 (z 0)),(12,AV.slcT none (Row.M [Seg.arr .i64 (shO z 1) (subO m 1)]) 1 (subO m 1) false),(13,AV.int .i64 (Int.ofNat (subO m 1))),(14,AV.int .i64 (Int.ofNat 0))]∧lvE::Z0::H=lvE::Z0::H) (Tr.ok ((AV.int .i64 i,none),Z0::H))))))) { lock:=false,bs:=(0,Blk.row (Row.G [AV.ptrT (some 1) (Row.G [slA 7 l y]) 0]))::bs }:=by kernel_rfl
def lsZ (z g:Nat→Int):Nat→Int
 | 0=>g 0
 | k+1=>if bHi z (g (k+1)).toNat<bHi z (lsZ z g k).toNat then g (k+1) else lsZ z g k
theorem lsZ_in (z g:Nat→Int) (k:Nat):∃ j,j≤k∧lsZ z g k=g j:=by
 induction k with
 | zero=>exact ⟨0,by omega,rfl⟩
 | succ k ih =>
   obtain ⟨j,h1,h2⟩:=ih
   unfold lsZ
   split
   · exact ⟨k+1,by omega,rfl⟩
   · exact ⟨j,by omega,h2⟩
theorem b85:∀ b,(0,b) ∈ blocksOf (bodyOf Tryz.f85)→b=.loop (part Tryz.f85 [1,1,0,1,0,0]):=by
 have:((blocksOf (bodyOf Tryz.f85)).filter fun x=>Nat.beq x.1 0)=[(0,.loop (part Tryz.f85 [1,1,0,1,0,0]))]:=by kernel_rfl
 intro b hb
 have hm:(0,b) ∈ ((blocksOf (bodyOf Tryz.f85)).filter fun x=>Nat.beq x.1 0):=List.mem_filter.2 ⟨hb,rfl⟩
 rw[this] at hm;simpa using hm
section
variable (n:Nat) (l:Nat) (z g:Nat→Int) (m:Nat) (bs:List (Nat×Blk)) (H:Heap)
theorem oY_hi (i:Int) (hl:l≤14) (h:0≤i∧i<l):oY z l (idO 0 i 7+5+1)=bHi z i.toNat:=by
 rw[idO_eq,show 0+i.toNat*7+5+1=i.toNat*7+6 by omega]
 exact oY_at z (by omega) (by omega)
theorem l85 (hl:l≤14) (h1:m<1000) (hg:∀ j,j<m+1→0≤g j∧g j<l):exec (cxD (n+1) 85 28) (.block 0 (.loop (part Tryz.f85 [1,1,0,1,0,0]))) (fr85 (m+1) g (g 0) 0) (lvE::⟨false,bx63 l (oY z l)::bs⟩::H)=some (.normal,fr85 (m+1) g (lsZ z g m) (Int.ofNat (subO (m+1) 1))++[(15,.bool false)],lvE::⟨false,bx63 l (oY z l)::bs⟩::H):=by
 have e1:subO (m+1) 1=m:=by rw[subO_eq];omega
 have:=forX (n:=n+1) (f:=85) (nt:=28) (c:=part Tryz.f85 [1,1,0,1,0,0]) 0 (fun j=>fr85 (m+1) g (lsZ z g j) (j:Int)) (fun _=>lvE::⟨false,bx63 l (oY z l)::bs⟩::H) m (fr85 (m+1) g (lsZ z g m) (Int.ofNat (subO (m+1) 1))++[(15,.bool false)],lvE::⟨false,bx63 l (oY z l)::bs⟩::H) (by omega) (fun j hj=>?_) ?_
 · exact this
 · have ej:addI .i64 (j:Int) (Int.ofNat 1)=((j+1:Nat):Int):=by rw[addI_eq,show Int.ofNat 1=1 from rfl];exact wr_64 (by omega) (by omega)
   have ei:shO g 1 (idO 0 (j:Int) 1)=g (j+1):=by rw[idO_eq,shO_eq];simp only[];congr 1;omega
   have eb:idO 0 (j:Int) 1=j:=by rw[idO_eq];omega
   obtain ⟨k,hk,hq⟩:=lsZ_in z g j
   have g1:=hg (j+1) (by omega)
   have g2:=hg k (by omega)
   rw[← hq] at g2
   have o1:=oY_hi l z (g (j+1)) hl g1
   have o2:=oY_hi l z (lsZ z g j) hl g2
   have hs:lsZ z g (j+1)=if bHi z (g (j+1)).toNat<bHi z (lsZ z g j).toNat then g (j+1) else lsZ z g j:=rfl
   have i1:idO 0 (g (j+1)) 7=(g (j+1)).toNat*7:=by rw[idO_eq];omega
   have i2:idO 0 (lsZ z g j) 7=(lsZ z g j).toNat*7:=by rw[idO_eq];omega
   refine ex_all (t85 n l (oY z l) g (m+1) bs H (lsZ z g j) (j:Int)) (il_no n 1) (noBT_ok _ _) (noRT_ok _ _) ?_
   simp only[ei]
   simp only[addO_eq]
   rw[o1,o2,ej,i1,i2,eb]
   rw[hs]
   clear hs o1 o2 i1 i2 ei hq
   generalize bHi z (g (j+1)).toNat=A at *
   generalize bHi z (lsZ z g j).toNat=B at *
   generalize g (j+1)=G at *
   generalize lsZ z g j=L at *
   by_cases hab:A<B
   · rw[if_pos hab]
     repeat' first | (refine Tr.all_ite (fun hc=>?_) (fun hc=>?_)<;>(try simp (disch:=omega) only[nV,nW,e1] at hc)<;>try omega) | (refine Tr.all_req ?_ ?_;· (try simp (disch:=omega) only[nV,nW,e1]);try omega) | (refine Tr.all_reqP ?_ ?_;· first | exact trivial | rfl | exact ⟨rfl,rfl⟩ | exact ⟨rfl,rfl,rfl⟩ | (simp (disch:=omega) only[nV,nW,e1];done) | ((try simp (disch:=omega) only[nV,nW,e1]);omega)) | fail
     all_goals first
      | exact Tr.all_ok ⟨rfl,rfl⟩
      | fail
   · rw[if_neg hab]
     repeat' first | (refine Tr.all_ite (fun hc=>?_) (fun hc=>?_)<;>(try simp (disch:=omega) only[nV,nW,e1] at hc)<;>try omega) | (refine Tr.all_req ?_ ?_;· (try simp (disch:=omega) only[nV,nW,e1]);try omega) | (refine Tr.all_reqP ?_ ?_;· first | exact trivial | rfl | exact ⟨rfl,rfl⟩ | exact ⟨rfl,rfl,rfl⟩ | (simp (disch:=omega) only[nV,nW,e1];done) | ((try simp (disch:=omega) only[nV,nW,e1]);omega)) | fail
     all_goals first
      | exact Tr.all_ok ⟨rfl,rfl⟩
      | fail
 · have em:((m:Nat):Int)=Int.ofNat (subO (m+1) 1):=by rw[e1];rfl
   show exec _ _ (fr85 (m+1) g (lsZ z g m) (m:Int)) _=_
   rw[em]
   obtain ⟨x,h1,rfl⟩:=ex_all (Q:=fun x=>x=(.exit 0,fr85 (m+1) g (lsZ z g m) (Int.ofNat (subO (m+1) 1))++[(15,.bool false)],lvE::⟨false,bx63 l (oY z l)::bs⟩::H)) (t85 n l (oY z l) g (m+1) bs H (lsZ z g m) (Int.ofNat (subO (m+1) 1))) (il_no n 1) (noBT_ok _ _) (noRT_ok _ _) (by
    repeat' first | (refine Tr.all_ite (fun hc=>?_) (fun hc=>?_)<;>(try simp (disch:=omega) only[nV,nW] at hc)<;>try omega) | (refine Tr.all_req ?_ ?_;· (try simp (disch:=omega) only[nV,nW]);try omega) | (refine Tr.all_reqP ?_ ?_;· first | exact trivial | rfl | exact ⟨rfl,rfl⟩ | exact ⟨rfl,rfl,rfl⟩ | (simp (disch:=omega) only[nV,nW];done) | ((try simp (disch:=omega) only[nV,nW]);omega)) | fail
    all_goals exact Tr.all_ok rfl)
   exact h1
theorem c85 (hl:l≤14) (h1:m<1000) (hg:∀ j,j<m+1→0≤g j∧g j<l):cd (n+2) (.fn 85) [sl1 (m+1) g false,.fn (.func 86) [] [.ptr 0 0 0 0]] (⟨false,bx63 l (oY z l)::bs⟩::H)=some (.int .i64 (lsZ z g m),⟨false,bx63 l (oY z l)::bs⟩::H):=by
 refine fn_all (n:=n+1) Tryz.func85 rfl rfl rfl (u85 n l (oY z l) g (m+1) bs H (lsZ z g m)) (il_no n 1) (blkE_ok (noBT_ok _ _) b85 (fun x hx=>by rw[← Tr.ok_some hx];simp only[Res.st,hints_eq];exact l85 n l z g m bs H hl h1 hg)) (noRT_ok _ _) ?_
 rw[show toN (Int.ofNat 1)=1 from toN_eq _]
 have e1:subO (m+1) 1=m:=by rw[subO_eq];omega
 repeat' first | (refine Tr.all_ite (fun hc=>?_) (fun hc=>?_)<;>(try simp (disch:=omega) only[nV,nW,e1] at hc)<;>try omega) | (refine Tr.all_req ?_ ?_;· (try simp (disch:=omega) only[nV,nW,e1]);try omega) | (refine Tr.all_reqP ?_ ?_;· first | exact trivial | rfl | exact ⟨rfl,rfl⟩ | exact ⟨rfl,rfl,rfl⟩ | (simp (disch:=omega) only[nV,nW,e1];done) | ((try simp (disch:=omega) only[nV,nW,e1]);omega)) | fail
 all_goals first
  | exact Tr.all_ok ⟨rfl,rfl⟩
  | fail
end
end Go.Eng
end
