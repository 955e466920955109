/- Drop: group. -/
import Derived.Test.YtjmjkhpfipglcaaV8Khx2
section
namespace Go.Eng
open Go.Proofs
set_option linter.unusedVariables false
set_option linter.unusedSimpArgs false
set_option maxRecDepth 100000
noncomputable def slP:AV:=.slc 0 2 0 0 1 1 (some 1)
noncomputable def fr115s (i:Int):Frm:=[(0,.slc 3 2 0 0 1 1 (some 1)),(1,.int .i64 0),(2,.int .i64 1),(6,.int .i64 i)]
theorem u115s (n:Nat) (H:Heap) (p:Int) (mk:Nat→Int) (i2:Int):bodyT Try.prog (cd (n+2)) 100000 115 Try.f115 (Kt.kt 115) (il noCt n 2) (blkE noBT 0 (fr115s (addI .i64 0 1)) (lv0::lv0::lv0::lvGr p mk slP []::H) (.ok (.normal,hints (fr115s i2++[(12,.bool false)]),lv0::lv0::lv0::lvGr p mk slP []::H))) noRT [(.slc 2 2 0 0 1 1 (some 1),none),(.int .i64 0,none),(.int .i64 1,none)] (lv0::lv0::lvGr p mk slP []::H) =
 (fun (Z0:Lvl)=>((fun (Z1:Frm)=>Tr.reqP (Z1=Z1∧lv0::lv0::lv0::Z0::H=lv0::lv0::lv0::Z0::H) (Tr.ok ((AV.tup [],none),lv0::lv0::Z0::H))) [(0,AV.slc 3 2 0 0 1 1 (some 1)),(1,AV.int .i64 (Int.ofNat 0)),(2,AV.int .i64 (Int.ofNat 1)),(6,AV.int .i64 (addI .i64 (Int.ofNat 0) (Int.ofNat 1)))])) { lock:=false,bs:=[(0,Blk.row (Row.I .i64 [p])),(0,Blk.row (Row.M [Seg.arr .i64 mk 12])),(0,Blk.row (Row.I .i64 [p])),(0,Blk.row (Row.G [AV.slc 0 2 0 0 1 1 (some 1)]))] }:=by kernel_rfl
theorem t115s (n:Nat) (H:Heap) (p:Int) (mk:Nat→Int) (i:Int):execT (cxD (n+2) 115 49) (il noCt n 2) (stopB noBT 2) noRT (part Try.f115 [1,0,0]) (hints (fr115s i)) (lv0::lv0::lv0::lvGr p mk slP []::H) =
 Tr.ite (ltI i (Int.ofNat 1)) Tr.bad (Tr.ok (Ex.exit 0,[(0,AV.slc 3 2 0 0 1 1 (some 1),none),(1,AV.int .i64 (Int.ofNat 0),none),(2,AV.int .i64 (Int.ofNat 1),none),(6,AV.int .i64 i,none),(12,AV.bool false,some 1)],lv0::lv0::lv0::{ lock:=false,bs:=[(0,Blk.row (Row.I .i64 [p])),(0,Blk.row (Row.M [Seg.arr .i64 mk 12])),(0,Blk.row (Row.I .i64 [p])),(0,Blk.row (Row.G [AV.slc 0 2 0 0 1 1 (some 1)]))] } :: H)):=by kernel_rfl
theorem u113s (n:Nat) (H:Heap) (p:Int) (mk:Nat→Int) (lim:Int):bodyT Try.prog (cd (n+3)) 100000 113 Try.f113 (Kt.kt 113) (il (ctE noCt 115 [.slc 2 2 0 0 1 1 (some 1),.int .i64 0,.int .i64 1] (lv0::lv0::lvGr p mk slP []::H) (.ok (.tup [],lv0::lv0::lvGr p mk slP []::H))) (n+3) 0) noBT noRT [(.slc 1 2 0 0 1 1 (some 1),none),(.int .i64 0,none),(.int .i64 1,none),(.int .i64 lim,none)] (lv0::lvGr p mk slP []::H) =
 (fun (Z0:Lvl)=>Tr.ite (leI (subI .i64 (Int.ofNat 1) (Int.ofNat 0)) (Int.ofNat 12)) (Tr.reqP ([AV.slc 2 2 0 0 1 1 (some 1),AV.int .i64 (Int.ofNat 0),AV.int .i64 (Int.ofNat 1)]=[AV.slc 2 2 0 0 1 1 (some 1),AV.int .i64 (Int.ofNat 0),AV.int .i64 (Int.ofNat 1)]∧lv0::lv0::Z0::H=lv0::lv0::Z0::H) (Tr.ok ((AV.tup [],none),lv0::Z0::H))) (Tr.ite (eqI lim (Int.ofNat 0)) Tr.bad Tr.bad)) { lock:=false,bs:=[(0,Blk.row (Row.I .i64 [p])),(0,Blk.row (Row.M [Seg.arr .i64 mk 12])),(0,Blk.row (Row.I .i64 [p])),(0,Blk.row (Row.G [AV.slc 0 2 0 0 1 1 (some 1)]))] }:=by kernel_rfl
theorem u108s (n:Nat) (H:Heap) (p:Int) (mk:Nat→Int) (lim:Int):bodyT Try.prog (cd (n+4)) 100000 108 Try.f108 (Kt.kt 108) (il (ctG (ctE noCt 113 [.slc 1 2 0 0 1 1 (some 1),.int .i64 0,.int .i64 1,.int .i64 lim] (lv0::lvGr p mk slP []::H) (.ok (.tup [],lv0::lvGr p mk slP []::H))) 114 (g114 1 lim)) (n+4) 0) noBT noRT [(slP,none)] (lvGr p mk slP []::H) =
 (fun (Z0:Lvl)=>((fun (Z1:List AV)=>Tr.reqP (wrI IntKind.u64 (Int.ofNat 1)=Int.ofNat 1) (Tr.reqP (Z1=Z1∧lv0::Z0::H=lv0::Z0::H) (Tr.ok ((AV.tup [],none),Z0::H)))) [AV.slc 1 2 0 0 1 1 (some 1),AV.int .i64 (Int.ofNat 0),AV.int .i64 (Int.ofNat 1),AV.int .i64 lim])) { lock:=false,bs:=[(0,Blk.row (Row.I .i64 [p])),(0,Blk.row (Row.M [Seg.arr .i64 mk 12])),(0,Blk.row (Row.I .i64 [p])),(0,Blk.row (Row.G [AV.slc 0 2 0 0 1 1 (some 1)]))] }:=by kernel_rfl
theorem u88a (n:Nat) (tk:Nat) (w:Int) (ls ld:Nat) (zs zd sz kd mk mk2:Nat→Int) (H:Heap) (p i2:Int) (sure:Bool):bodyT Try.prog (cd (n+5)) 100000 88 Try.f88 (Kt.kt 88) (il (ctE noCt 108 [slP] (lvGr p mk2 slP []::H) (.ok (.tup [],lvGr p mk2 slP []::H))) (n+5) 0) (blkE noBT 0 (fr88 tk w ls ld zs zd sz kd sure 0) (lvGr p mk slP []::H) (.ok (.normal,hints (fr88 tk w ls ld zs zd sz kd sure i2++[(21,.bool false)]),lvGr p mk2 slP []::H))) noRT [(tabR tk w ls ld zs zd sz kd,none),(.int .i64 p,none),(.bool sure,none)] H =
 (fun (Z0:Frm)=>((fun (Z1:Lvl)=>Tr.req (inO 0 12 0 12) (Tr.req (inI (addI .i64 p (Int.ofNat 2)) 12) (Tr.req (eqN 0 0) (Tr.req (ltN (idO 0 (addI .i64 p (Int.ofNat 2)) 1) 12) (Tr.reqP (Z0=Z0∧{ lock:=false,bs:=[(0,Blk.row (Row.I .i64 [p])),(0,Blk.row (Row.M [Seg.arr .i64 (updO (copO (fun x=>Int.ofNat 0) 0 (fun x=>Int.ofNat 0) 12) (idO 0 (addI .i64 p (Int.ofNat 2)) 1) (Int.ofNat 1)) 12])),(0,Blk.row (Row.I .i64 [p])),(0,Blk.row (Row.G [AV.slc 0 2 0 0 1 1 (some 1)]))] } :: H={ lock:=false,bs:=[(0,Blk.row (Row.I .i64 [p])),(0,Blk.row (Row.M [Seg.arr .i64 mk 12])),(0,Blk.row (Row.I .i64 [p])),(0,Blk.row (Row.G [AV.slc 0 2 0 0 1 1 (some 1)]))] } :: H) (Tr.reqP ([AV.slc 0 2 0 0 1 1 (some 1)]=[AV.slc 0 2 0 0 1 1 (some 1)]∧Z1::H=Z1::H) (Tr.req (eqN 0 0) (Tr.ok ((AV.slcT none (Row.I .i64 [p]) 1 1 (eqN 1 1),none),H))))))))) { lock:=false,bs:=[(0,Blk.row (Row.I .i64 [p])),(0,Blk.row (Row.M [Seg.arr .i64 mk2 12])),(0,Blk.row (Row.I .i64 [p])),(0,Blk.row (Row.G [AV.slc 0 2 0 0 1 1 (some 1)]))] })) [(0,AV.ptrT (some (Nat.succ tk)) (Row.M [Seg.one (AV.int .i64 w),Seg.one (slA 2 ls zs),Seg.one (slA 3 ld zd),Seg.one (.slcT none (.M [.arr .i64 sz (mulO ls 2)]) 2 ls true),Seg.arr .i64 kd 144]) 0),(2,AV.bool sure),(4,AV.ptr 0 0 0 0),(7,AV.ptr 0 1 0 0),(8,AV.ptr 0 3 0 0),(9,AV.int .i64 (Int.ofNat 0))]:=by kernel_rfl
theorem u88b (n:Nat) (tk:Nat) (w:Int) (ls ld:Nat) (zs zd sz kd mk mk2 z z2:Nat→Int) (H:Heap) (p i2:Int) (sure:Bool) (v m:Nat):bodyT Try.prog (cd (n+5)) 100000 88 Try.f88 (Kt.kt 88) (il (ctE noCt 108 [.slc 0 4 v 0 1 m none] (lvSo p mk2 z (.slc 0 4 v 0 1 m none) v m::H) (.ok (.tup [],lvSo p mk2 z2 (.slc 0 4 v 0 1 m none) v m::H))) (n+5) 0) (blkE noBT 0 (fr88 tk w ls ld zs zd sz kd sure 0) (lvGr p mk slP []::H) (.ok (.normal,hints (fr88 tk w ls ld zs zd sz kd sure i2++[(21,.bool false)]),lvSo p mk2 z (.slc 0 4 v 0 1 m none) v m::H))) noRT [(tabR tk w ls ld zs zd sz kd,none),(.int .i64 p,none),(.bool sure,none)] H =
 (fun (Z0:Frm)=>((fun (Z1:Lvl)=>Tr.req (inO 0 12 0 12) (Tr.req (inI (addI .i64 p (Int.ofNat 2)) 12) (Tr.req (eqN 0 0) (Tr.req (ltN (idO 0 (addI .i64 p (Int.ofNat 2)) 1) 12) (Tr.reqP (Z0=Z0∧{ lock:=false,bs:=[(0,Blk.row (Row.I .i64 [p])),(0,Blk.row (Row.M [Seg.arr .i64 (updO (copO (fun x=>Int.ofNat 0) 0 (fun x=>Int.ofNat 0) 12) (idO 0 (addI .i64 p (Int.ofNat 2)) 1) (Int.ofNat 1)) 12])),(0,Blk.row (Row.I .i64 [p])),(0,Blk.row (Row.G [AV.slc 0 2 0 0 1 1 (some 1)]))] } :: H={ lock:=false,bs:=[(0,Blk.row (Row.I .i64 [p])),(0,Blk.row (Row.M [Seg.arr .i64 mk 12])),(0,Blk.row (Row.I .i64 [p])),(0,Blk.row (Row.G [AV.slc 0 2 0 0 1 1 (some 1)]))] } :: H) (Tr.reqP ([AV.slc 0 4 v 0 1 m none]=[AV.slc 0 4 v 0 1 m none]∧Z1::H=Z1::H) (Tr.req (eqN v v) (Tr.req (inO 0 m 0 m) (Tr.ok ((AV.slcT none (Row.M [Seg.arr .i64 (shO z2 0) m]) 1 m false,none),H)))))))))) { lock:=false,bs:=[(0,Blk.row (Row.I .i64 [p])),(0,Blk.row (Row.M [Seg.arr .i64 mk2 12])),(0,Blk.row (Row.I .i64 [p])),(0,Blk.row (Row.G [AV.slc 0 4 v 0 1 m none])),(v,Blk.row (Row.M [Seg.arr .i64 z m]))] })) [(0,AV.ptrT (some (Nat.succ tk)) (Row.M [Seg.one (AV.int .i64 w),Seg.one (slA 2 ls zs),Seg.one (slA 3 ld zd),Seg.one (.slcT none (.M [.arr .i64 sz (mulO ls 2)]) 2 ls true),Seg.arr .i64 kd 144]) 0),(2,AV.bool sure),(4,AV.ptr 0 0 0 0),(7,AV.ptr 0 1 0 0),(8,AV.ptr 0 3 0 0),(9,AV.int .i64 (Int.ofNat 0))]:=by kernel_rfl
noncomputable def mk0 (p:Int):Nat→Int:=updO (copO (fun _=>0) 0 (fun _=>0) 12) (p+2).toNat 1
noncomputable def grpV (p:Int):List Int→AV
 | []=>.slcT none (.I .i64 [p]) 1 1 true
 | y::r=>sl1 (r.length+2) (srtF (lstO (p::y::r)) (r.length+1)) false
noncomputable def grpL (kd:Nat→Int) (sure:Bool) (ls:Nat) (p:Int):List Int:=(grS kd sure ls p (mk0 p) (grN kd sure ls p (mk0 p))).2
section
variable (n:Nat) (tk:Nat) (w:Int) (ls ld:Nat) (zs zd sz kd:Nat→Int) (H:Heap) (p:Int) (sure:Bool) (mk:Nat→Int)
theorem c115s:cd (n+3) (.fn 115) [.slc 2 2 0 0 1 1 (some 1),.int .i64 0,.int .i64 1] (lv0::lv0::lvGr p mk slP []::H)=some (.tup [],lv0::lv0::lvGr p mk slP []::H):=by
 have l:=forX (n:=n+2) (f:=115) (nt:=49) (c:=part Try.f115 [1,0,0]) 0 (fun k=>fr115s ((k+1:Nat):Int)) (fun k=>lv0::lv0::lv0::lvGr p mk slP []::H) 0 (fr115s ((1:Nat):Int)++[(12,.bool false)],lv0::lv0::lv0::lvGr p mk slP []::H) (by omega) (fun k hk=>by omega) (by
  obtain ⟨x,h1,rfl⟩:=ex_all (Q:=fun x=>x=(.exit 0,fr115s ((1:Nat):Int)++[(12,.bool false)],lv0::lv0::lv0::lvGr p mk slP []::H)) (t115s n H p mk ((1:Nat):Int)) (il_no n 2) (stopB_ok (noBT_ok _ _) 2) (noRT_ok _ _) (by
   repeat' first | (refine Tr.all_ite (fun hc=>?_) (fun hc=>?_)<;>(try simp (disch:=omega) only[nV,nW] at hc)<;>try omega) | (refine Tr.all_req ?_ ?_;· (try simp (disch:=omega) only[nV,nW]);try omega) | (refine Tr.all_reqP ?_ ?_;· first | exact trivial | rfl | exact ⟨rfl,rfl⟩ | exact ⟨rfl,rfl,rfl⟩ | (simp (disch:=omega) only[nV,nW];done) | ((try simp (disch:=omega) only[nV,nW]);omega)) | fail
   exact Tr.all_ok rfl)
  exact h1)
 have e1:addI .i64 0 1=((1:Nat):Int):=by rw[addI_eq];rfl
 refine fn_all (n:=n+2) Try.func115 rfl rfl rfl (u115s n H p mk ((1:Nat):Int)) (il_no n 2) (blkE_ok (noBT_ok _ _) b115 (fun x hx=>by rw[← Tr.ok_some hx,e1];simp only[Res.st,hints_eq];exact l)) (noRT_ok _ _) ?_
 repeat' first | (refine Tr.all_ite (fun hc=>?_) (fun hc=>?_)<;>(try simp (disch:=omega) only[nV,nW] at hc)<;>try omega) | (refine Tr.all_req ?_ ?_;· (try simp (disch:=omega) only[nV,nW]);try omega) | (refine Tr.all_reqP ?_ ?_;· first | exact trivial | rfl | exact ⟨rfl,rfl⟩ | exact ⟨rfl,rfl,rfl⟩ | (simp (disch:=omega) only[nV,nW];done) | ((try simp (disch:=omega) only[nV,nW]);omega)) | fail
 exact Tr.all_ok ⟨rfl,rfl⟩
theorem c113s (lim:Int):cd (n+4) (.fn 113) [.slc 1 2 0 0 1 1 (some 1),.int .i64 0,.int .i64 1,.int .i64 lim] (lv0::lvGr p mk slP []::H)=some (.tup [],lv0::lvGr p mk slP []::H):=by
 refine fn_all (n:=n+3) Try.func113 rfl rfl rfl (u113s n H p mk lim) (il_ok _ (n+3) 0 (fun k=>ctE_ok (noCt_ok _) (fun x hx=>?_))) (noBT_ok _ _) (noRT_ok _ _) ?_
 · rw[← Tr.ok_some hx,show n+3+k=n+k+3 by omega]
   exact c115s (n+k) H p mk
 · repeat' first | (refine Tr.all_ite (fun hc=>?_) (fun hc=>?_)<;>(try simp (disch:=omega) only[nV,nW] at hc)<;>try omega) | (refine Tr.all_req ?_ ?_;· (try simp (disch:=omega) only[nV,nW]);try omega) | (refine Tr.all_reqP ?_ ?_;· first | exact trivial | rfl | exact ⟨rfl,rfl⟩ | exact ⟨rfl,rfl,rfl⟩ | (simp (disch:=omega) only[nV,nW];done) | ((try simp (disch:=omega) only[nV,nW]);omega)) | fail
   exact Tr.all_ok ⟨rfl,rfl⟩
theorem c108s:cd (n+5) (.fn 108) [slP] (lvGr p mk slP []::H)=some (.tup [],lvGr p mk slP []::H):=by
 have ew:wrI .u64 (Int.ofNat 1)=Int.ofNat 1:=by rw[wrI_eq];rfl
 refine fn_all (n:=n+4) Try.func108 rfl rfl rfl (u108s n H p mk (limN 1)) (il_ok _ (n+4) 0 (fun k=>ctG_ok (ctE_ok (noCt_ok _) (fun x hx=>?_)) (fun args p' v' hg hp H=>?_))) (noBT_ok _ _) (noRT_ok _ _) ?_
 · rw[← Tr.ok_some hx,show n+4+k=n+k+4 by omega]
   exact c113s (n+k) H p mk _
 · unfold g114 at hg
   split at hg
   · simp only[nP] at hg
     obtain ⟨rfl,rfl⟩:=hg
     subst hp
     rw[show n+4+k=n+1+k+3 by omega]
     exact c114_1 _ H
   · cases hg
 · rw[ew]
   refine Tr.all_reqP rfl (Tr.all_reqP ⟨rfl,rfl⟩ (Tr.all_ok ⟨rfl,rfl⟩))
theorem b88:∀ b,(0,b) ∈ blocksOf (bodyOf Try.f88)→b=.loop (part Try.f88 [1,1,1,1,1,0,1,0,0]):=by
 have:((blocksOf (bodyOf Try.f88)).filter fun x=>Nat.beq x.1 0)=[(0,.loop (part Try.f88 [1,1,1,1,1,0,1,0,0]))]:=by kernel_rfl
 intro b hb
 have hm:(0,b) ∈ ((blocksOf (bodyOf Try.f88)).filter fun x=>Nat.beq x.1 0):=List.mem_filter.2 ⟨hb,rfl⟩
 rw[this] at hm;simpa using hm
theorem c88 (hp:-2≤p∧p<ls) (hls:ls≤10):cd (n+6) (.fn 88) [tabR tk w ls ld zs zd sz kd,.int .i64 p,.bool sure] H=some (grpV p (grpL kd sure ls p),H):=by
 have l:=l88 n tk w ls ld zs zd sz kd H p sure (mk0 p) hp hls
 have hg:=grS_ok ls kd p sure (mk0 p) hp (grN kd sure ls p (mk0 p))
 have hlen:=hg.len
 have e1:addI .i64 p (Int.ofNat 2)=p+2:=by rw[addI_eq,show Int.ofNat 2=2 from rfl];exact wr_64 (by omega) (by omega)
 have e2:idO 0 (p+2) 1=(p+2).toNat:=by rw[idO_eq];omega
 have e3:updO (copO (fun _=>Int.ofNat 0) 0 (fun _=>Int.ofNat 0) 12) (p+2).toNat (Int.ofNat 1)=mk0 p:=rfl
 unfold grpL
 generalize grN kd sure ls p (mk0 p)=N at *
 generalize grS kd sure ls p (mk0 p) N=s at *
 obtain ⟨mk2,r⟩:=s
 cases r with
 | nil =>
   refine fn_all (n:=n+5) Try.func88 rfl rfl rfl (u88a n tk w ls ld zs zd sz kd (mk0 p) mk2 H p (N:Int) sure) (il_ok _ (n+5) 0 (fun k=>ctE_ok (noCt_ok _) (fun x hx=>?_))) (blkE_ok (noBT_ok _ _) b88 (fun x hx=>by rw[← Tr.ok_some hx];simp only[Res.st,hints_eq];exact l)) (noRT_ok _ _) ?_
   · rw[← Tr.ok_some hx,show n+5+k=n+k+5 by omega]
     exact c108s (n+k) H p mk2
   · rw[e1,e2,e3]
     repeat' first | (refine Tr.all_ite (fun hc=>?_) (fun hc=>?_)<;>(try simp (disch:=omega) only[nV,nW] at hc)<;>try omega) | (refine Tr.all_req ?_ ?_;· (try simp (disch:=omega) only[nV,nW]);try omega) | (refine Tr.all_reqP ?_ ?_;· first | exact trivial | rfl | exact ⟨rfl,rfl⟩ | exact ⟨rfl,rfl,rfl⟩ | (simp (disch:=omega) only[nV,nW];done) | ((try simp (disch:=omega) only[nV,nW]);omega)) | fail
     refine Tr.all_ok ⟨?_,rfl⟩
     simp only[beqN_self]
     rfl
 | cons y r =>
   have hr:r.length+1≤ls+2:=by simpa using hlen
   have hr2:r.length+1≤ls+1:=by
    have h1:=nd_len (ls+2) (-2) (p::y::r) (List.nodup_cons.2 ⟨fun hm=>(hg.mem p hm).2.2.1 rfl,hg.nd⟩) (fun q hq=>by
     rcases List.mem_cons.1 hq with h | h
     · rw[h];omega
     · have:=hg.mem q h;omega)
    have:r.length+1+1≤ls+2:=by simpa using h1
    omega
   refine fn_all (n:=n+5) Try.func88 rfl rfl rfl (u88b n tk w ls ld zs zd sz kd (mk0 p) mk2 (lstO (p::y::r)) (srtF (lstO (p::y::r)) (r.length+2-1)) H p (N:Int) sure r.length (r.length+2)) (il_ok _ (n+5) 0 (fun k=>ctE_ok (noCt_ok _) (fun x hx=>?_))) (blkE_ok (noBT_ok _ _) b88 (fun x hx=>by rw[← Tr.ok_some hx];simp only[Res.st,hints_eq];exact l)) (noRT_ok _ _) ?_
   · rw[← Tr.ok_some hx,show n+5+k=n+k+5 by omega]
     exact c108 (n+k) H p mk2 (lstO (p::y::r)) _ r.length (r.length+2) (by omega) (by omega)
   · rw[e1,e2,e3]
     repeat' first | (refine Tr.all_ite (fun hc=>?_) (fun hc=>?_)<;>(try simp (disch:=omega) only[nV,nW] at hc)<;>try omega) | (refine Tr.all_req ?_ ?_;· (try simp (disch:=omega) only[nV,nW]);try omega) | (refine Tr.all_reqP ?_ ?_;· first | exact trivial | rfl | exact ⟨rfl,rfl⟩ | exact ⟨rfl,rfl,rfl⟩ | (simp (disch:=omega) only[nV,nW];done) | ((try simp (disch:=omega) only[nV,nW]);omega)) | fail
     refine Tr.all_ok ⟨?_,rfl⟩
     rw[shO_zero]
     rfl
end
end Go.Eng
end
section
namespace Go.Eng
open Go.Proofs
set_option linter.unusedVariables false
set_option linter.unusedSimpArgs false
set_option maxRecDepth 100000
noncomputable def slI (p:Int):AV:=.slcT none (.I .i64 [p]) 1 1 true
noncomputable def g88 (T:AV) (p:Int) (sure:Bool) (l:AV):List AV→Option (Prop×AV)
 | [t,.int .i64 q,.bool s]=>some (t=T∧q=p∧s=sure,l)
 | _=>none
section
variable (n:Nat) (H:Heap) (m:Nat) (z:Nat→Int) (full:Bool) (p q:Int)
end
end Go.Eng
end
section
namespace Go.Eng
open Go.Proofs
set_option linter.unusedVariables false
set_option linter.unusedSimpArgs false
set_option maxRecDepth 100000
noncomputable def kdT (w:Int) (ls ld:Nat) (zs zd:Nat→Int):Nat→Int:=kdO w ls zs (szs zd ld) (ls+2)
theorem grpL_len {kd:Nat→Int} {sure:Bool} {ls:Nat} {p:Int} (hp:-2≤p∧p<ls):(grpL kd sure ls p).length≤ls+2 :=
 (grS_ok ls kd p sure (mk0 p) hp (grN kd sure ls p (mk0 p))).len
section
variable (n:Nat) (w:Int) (ls ld:Nat) (zs zd:Nat→Int) (H:Heap) (p q:Int) (sure:Bool)
theorem ct68s (k:Nat) (t:AV) (e:Int) (ht:t=plT w ls ld zs zd p q) (he:e=plE w ls ld zs zd p q):(ctG noCt 68 (g68 (bathA w ls zs ld zd) p q t e)).Ok (cd (n+14+k)):=by
 subst ht;subst he
 refine ctG_ok (noCt_ok _) (fun args p v hg hp H=>?_)
 unfold g68 at hg
 split at hg
 · simp only[nP] at hg
   obtain ⟨rfl,rfl⟩:=hg
   obtain ⟨rfl,rfl,rfl⟩:=hp
   rw[show n+14+k=n+k+14 by omega]
   exact c68 _ w ls ld zs zd H _ _
 · cases hg
end
end Go.Eng
end
section
namespace Go.Eng
open Go.Proofs
set_option linter.unusedVariables false
set_option linter.unusedSimpArgs false
set_option maxRecDepth 100000
def g58 (B:AV) (t:AV) (e:Int):List AV→Option (Prop×AV)
 | [b]=>some (b=B,.tup [t,.int .i64 e])
 | _=>none
noncomputable def fr36 (w:Int) (ls ld:Nat) (zs zd sz kd:Nat→Int):Frm:=[(3,.ptr 0 1 0 0),(6,.ptr 0 2 0 0),(8,.ptr 0 3 0 0),(20,.fn (.func 109) [] [.ptrT (some 0) (.G [tabR 0 w ls ld zs zd sz kd]) 0])]
noncomputable def lv36 (w:Int) (ls ld:Nat) (zs zd sz kd:Nat→Int) (sure:Bool) (s:AV) (rest:List (Nat×Blk)):Lvl:=⟨false,(0,.row (.G [.int .i64 w,slA 2 ls zs,slA 3 ld zd]))::(0,.row (.G [.bool sure]))::(0,.row (.G [tabR 0 w ls ld zs zd sz kd]))::(0,.row (.G [s]))::rest⟩
noncomputable def fr36Y (p:Int):Frm:=[(3,.ptr 2 1 0 0),(6,.ptr 2 2 0 0),(8,.ptr 2 3 0 0),(9,.int .i64 p)]
noncomputable def fr36Z (w:Int) (ls ld:Nat) (zs zd sz kd:Nat→Int) (p:Int):Frm:=[(3,.ptr 2 1 0 0),(6,.ptr 2 2 0 0),(8,.ptr 2 3 0 0),(20,.fn (.func 109) [] [.ptrT (some 2) (.G [tabR 0 w ls ld zs zd sz kd]) 0]),(21,.int .i64 p)]
noncomputable def cx36 (n:Nat):Cx:=⟨Try.prog,cd n,100000,36,49,Kt.kt 36,some (2,4)⟩
noncomputable def qAs:Code:=part Try.f36 [1,1,1,1,0,1,0,0]
noncomputable def qBd:Code:=part Try.f36 [1,1,1,1,0,1,0,1]
theorem u58 (n:Nat) (w:Int) (ls ld:Nat) (zs zd sz kd:Nat→Int) (H:Heap) (e:Int) (side:Prop):bodyT Try.prog (cd (n+13)) 100000 58 Try.f58 (Kt.kt 58) (il (ctG (ctG noCt 19 (g20 (bathA w ls zs ld zd) e)) 77 (g77 (bathA w ls zs ld zd) side (tabV w ls ld zs zd sz kd))) (n+11) 2) noBT noRT [(bathA w ls zs ld zd,none)] H =
 Tr.reqP (bathA w ls zs ld zd=bathA w ls zs ld zd) (Tr.ite (notB (eqI e (Int.ofNat 0))) (Tr.ok ((AV.tup [AV.nilp,AV.int .i64 e],none),H)) (Tr.reqP (bathA w ls zs ld zd=bathA w ls zs ld zd∧side) (Tr.ok ((AV.tup [AV.ptrT (some 0) (Row.M [Seg.one (AV.int .i64 w),Seg.one (slA 2 ls zs),Seg.one (slA 3 ld zd),Seg.one (AV.slcT none (Row.M [Seg.arr .i64 sz (mulO ls 2)]) 2 ls true),Seg.arr .i64 kd 144]) 0,AV.int .i64 (Int.ofNat 0)],none),H)))):=by kernel_rfl
theorem t36A1 (n:Nat) (w:Int) (ls ld:Nat) (zs zd sz kd:Nat→Int) (H:Heap) (p:Int) (sure:Bool) (L:Blk):execT (cx36 n) (il (ctG noCt 88 (g88 (tabR 2 w ls ld zs zd sz kd) p sure (slI p))) n 0) noBT noRT qBd (hints (fr36Y p)) (lv0::lv0::lv36 w ls ld zs zd sz kd sure .nils [(0,L)]::H) =
 (fun (Z0:Row)=>((fun (Z1:Lvl)=>((fun (Z2:Lvl)=>((fun (Z3:HFrm)=>((fun (Z4:Lvl)=>Tr.ite (leI (Int.ofNat 0) p) (Tr.req (inI p ls) (Tr.req (ltN (addO (idO 0 p 2) 1) (mulO ls 2)) (Tr.ite (eqI (sz (addO (idO 0 p 2) 1)) (Int.ofNat 0)) (Tr.ok (Ex.normal,[(3,AV.ptr 2 1 0 0,none),(6,AV.ptr 2 2 0 0,none),(8,AV.ptr 2 3 0 0,none),(9,AV.int .i64 p,none),(34,AV.bool true,some 1)],lv0::lv0::Z1::H)) (Tr.reqP (AV.ptrT (some 2) Z0 0=AV.ptrT (some 2) Z0 0∧p=p∧sure=sure) (Tr.req (inI (Int.ofNat 0) 1) (Tr.ite (eqI p p) (Tr.req (roomO 0 1 24) (Tr.req (leN 1 1) (Tr.ok (Ex.normal,[],Z4::lv0::Z2::H)))) (Tr.ok (Ex.normal,Z3,lv0::lv0::Z1::H)))))))) (Tr.reqP (AV.ptrT (some 2) Z0 0=AV.ptrT (some 2) Z0 0∧p=p∧sure=sure) (Tr.req (inI (Int.ofNat 0) 1) (Tr.ite (eqI p p) (Tr.req (roomO 0 1 24) (Tr.req (leN 1 1) (Tr.ok (Ex.normal,[],Z4::lv0::Z2::H)))) (Tr.ok (Ex.normal,Z3,lv0::lv0::Z1::H)))))) { lock:=false,bs:=[(0,Blk.row (Row.G [AV.slcT none (Row.I .i64 [p]) 1 1 true])),(0,Blk.dead)] })) [(8,AV.ptr 2 3 0 0,none),(10,AV.slcT none (Row.I .i64 [p]) 1 1 true,none),(43,AV.bool false,some 1)])) { lock:=false,bs:=[(0,Blk.row (Row.G [AV.int .i64 w,slA 2 ls zs,slA 3 ld zd])),(0,Blk.row (Row.G [AV.bool sure])),(0,Blk.row (Row.G [AV.ptrT (some 0) Z0 0])),(0,Blk.row (Row.G [AV.slc 0 5 0 0 1 1 none])),(0,L),(0,Blk.row (Row.F (fun x=>AV.slcT none (Row.M [Seg.arr .i64 (lstO [p]) 1]) 1 1 false) 1))] })) { lock:=false,bs:=[(0,Blk.row (Row.G [AV.int .i64 w,slA 2 ls zs,slA 3 ld zd])),(0,Blk.row (Row.G [AV.bool sure])),(0,Blk.row (Row.G [AV.ptrT (some 0) Z0 0])),(0,Blk.row (Row.G [AV.nils])),(0,L)] })) (Row.M [Seg.one (AV.int .i64 w),Seg.one (slA 2 ls zs),Seg.one (slA 3 ld zd),Seg.one (AV.slcT none (Row.M [Seg.arr .i64 sz (mulO ls 2)]) 2 ls true),Seg.arr .i64 kd 144]):=by kernel_rfl
theorem t36B1 (n:Nat) (w:Int) (ls ld:Nat) (zs zd sz kd:Nat→Int) (H:Heap) (p:Int) (sure:Bool) (L:Blk) (v m:Nat) (f1:Nat→Nat→Int) (f2:Nat→Nat):execT (cx36 n) (il (ctG noCt 88 (g88 (tabR 2 w ls ld zs zd sz kd) p sure (slI p))) n 0) noBT noRT qBd (hints (fr36Y p)) (lv0::lv0::lv36 w ls ld zs zd sz kd sure (.slc 0 5 v 0 1 m none) [(0,L),(v,.row (.F (fun j=>sl1 (f2 j) (f1 j) false) m))]::H) =
 (fun (Z0:Row)=>((fun (Z1:Lvl)=>((fun (Z2:Lvl)=>((fun (Z3:HFrm)=>((fun (Z4:Lvl)=>Tr.ite (leI (Int.ofNat 0) p) (Tr.req (inI p ls) (Tr.req (ltN (addO (idO 0 p 2) 1) (mulO ls 2)) (Tr.ite (eqI (sz (addO (idO 0 p 2) 1)) (Int.ofNat 0)) (Tr.ok (Ex.normal,[(3,AV.ptr 2 1 0 0,none),(6,AV.ptr 2 2 0 0,none),(8,AV.ptr 2 3 0 0,none),(9,AV.int .i64 p,none),(34,AV.bool true,some 1)],lv0::lv0::Z1::H)) (Tr.reqP (AV.ptrT (some 2) Z0 0=AV.ptrT (some 2) Z0 0∧p=p∧sure=sure) (Tr.req (inI (Int.ofNat 0) 1) (Tr.ite (eqI p p) (Tr.req (roomO m 1 24) (Tr.req (leN 1 1) (Tr.req (eqN v v) (Tr.req (eqN (addO 0 m) m) (Tr.reqP (allS (fun j=>AV.slcT none (Row.M [Seg.arr .i64 (f1 (addO 0 j)) (f2 (addO 0 j))]) 1 (f2 (addO 0 j)) false) IntKind.i64 1 false) (Tr.ok (Ex.normal,[],Z4::lv0::Z2::H))))))) (Tr.ok (Ex.normal,Z3,lv0::lv0::Z1::H)))))))) (Tr.reqP (AV.ptrT (some 2) Z0 0=AV.ptrT (some 2) Z0 0∧p=p∧sure=sure) (Tr.req (inI (Int.ofNat 0) 1) (Tr.ite (eqI p p) (Tr.req (roomO m 1 24) (Tr.req (leN 1 1) (Tr.req (eqN v v) (Tr.req (eqN (addO 0 m) m) (Tr.reqP (allS (fun j=>AV.slcT none (Row.M [Seg.arr .i64 (f1 (addO 0 j)) (f2 (addO 0 j))]) 1 (f2 (addO 0 j)) false) IntKind.i64 1 false) (Tr.ok (Ex.normal,[],Z4::lv0::Z2::H))))))) (Tr.ok (Ex.normal,Z3,lv0::lv0::Z1::H)))))) { lock:=false,bs:=[(0,Blk.row (Row.G [AV.slcT none (Row.I .i64 [p]) 1 1 true]))] })) [(8,AV.ptr 2 3 0 0,none),(10,AV.slcT none (Row.I .i64 [p]) 1 1 true,none),(43,AV.bool false,some 1)])) { lock:=false,bs:=[(0,Blk.row (Row.G [AV.int .i64 w,slA 2 ls zs,slA 3 ld zd])),(0,Blk.row (Row.G [AV.bool sure])),(0,Blk.row (Row.G [AV.ptrT (some 0) Z0 0])),(0,Blk.row (Row.G [AV.slc 0 5 (Nat.succ v) 0 1 (addO m 1) none])),(0,L),(Nat.succ v,Blk.row (Row.F (fun j=>AV.slcT none (Row.M [Seg.arr .i64 (selZ (ltN j m) (f1 (addO 0 j)) (lstO [p])) (selN (ltN j m) (f2 (addO 0 j)) 1)]) 1 (selN (ltN j m) (f2 (addO 0 j)) 1) false) (addO m 1)))] })) { lock:=false,bs:=[(0,Blk.row (Row.G [AV.int .i64 w,slA 2 ls zs,slA 3 ld zd])),(0,Blk.row (Row.G [AV.bool sure])),(0,Blk.row (Row.G [AV.ptrT (some 0) Z0 0])),(0,Blk.row (Row.G [AV.slc 0 5 v 0 1 m none])),(0,L),(v,Blk.row (Row.F (fun j=>AV.slcT none (Row.M [Seg.arr .i64 (f1 j) (f2 j)]) 1 (f2 j) false) m))] })) (Row.M [Seg.one (AV.int .i64 w),Seg.one (slA 2 ls zs),Seg.one (slA 3 ld zd),Seg.one (AV.slcT none (Row.M [Seg.arr .i64 sz (mulO ls 2)]) 2 ls true),Seg.arr .i64 kd 144]):=by kernel_rfl
theorem t36A2 (n:Nat) (w:Int) (ls ld:Nat) (zs zd sz kd:Nat→Int) (H:Heap) (p:Int) (sure:Bool) (L:Blk) (k:Nat) (y:Nat→Int):execT (cx36 n) (il (ctG noCt 88 (g88 (tabR 2 w ls ld zs zd sz kd) p sure (sl1 k y false))) n 0) noBT noRT qBd (hints (fr36Y p)) (lv0::lv0::lv36 w ls ld zs zd sz kd sure .nils [(0,L)]::H) =
 (fun (Z0:Row)=>((fun (Z1:Lvl)=>((fun (Z2:Lvl)=>((fun (Z3:HFrm)=>((fun (Z4:Lvl)=>Tr.ite (leI (Int.ofNat 0) p) (Tr.req (inI p ls) (Tr.req (ltN (addO (idO 0 p 2) 1) (mulO ls 2)) (Tr.ite (eqI (sz (addO (idO 0 p 2) 1)) (Int.ofNat 0)) (Tr.ok (Ex.normal,[(3,AV.ptr 2 1 0 0,none),(6,AV.ptr 2 2 0 0,none),(8,AV.ptr 2 3 0 0,none),(9,AV.int .i64 p,none),(34,AV.bool true,some 1)],lv0::lv0::Z1::H)) (Tr.reqP (AV.ptrT (some 2) Z0 0=AV.ptrT (some 2) Z0 0∧p=p∧sure=sure) (Tr.req (inI (Int.ofNat 0) k) (Tr.req (ltN 0 k) (Tr.ite (eqI (y 0) p) (Tr.req (roomO 0 1 24) (Tr.req (leN 1 1) (Tr.ok (Ex.normal,[],Z4::lv0::Z2::H)))) (Tr.ok (Ex.normal,Z3,lv0::lv0::Z1::H))))))))) (Tr.reqP (AV.ptrT (some 2) Z0 0=AV.ptrT (some 2) Z0 0∧p=p∧sure=sure) (Tr.req (inI (Int.ofNat 0) k) (Tr.req (ltN 0 k) (Tr.ite (eqI (y 0) p) (Tr.req (roomO 0 1 24) (Tr.req (leN 1 1) (Tr.ok (Ex.normal,[],Z4::lv0::Z2::H)))) (Tr.ok (Ex.normal,Z3,lv0::lv0::Z1::H))))))) { lock:=false,bs:=[(0,Blk.row (Row.G [AV.slcT none (Row.M [Seg.arr .i64 y k]) 1 k false])),(0,Blk.dead)] })) [(8,AV.ptr 2 3 0 0,none),(10,AV.slcT none (Row.M [Seg.arr .i64 y k]) 1 k false,none),(43,AV.bool false,some 1)])) { lock:=false,bs:=[(0,Blk.row (Row.G [AV.int .i64 w,slA 2 ls zs,slA 3 ld zd])),(0,Blk.row (Row.G [AV.bool sure])),(0,Blk.row (Row.G [AV.ptrT (some 0) Z0 0])),(0,Blk.row (Row.G [AV.slc 0 5 0 0 1 1 none])),(0,L),(0,Blk.row (Row.F (fun x=>AV.slcT none (Row.M [Seg.arr .i64 y k]) 1 k false) 1))] })) { lock:=false,bs:=[(0,Blk.row (Row.G [AV.int .i64 w,slA 2 ls zs,slA 3 ld zd])),(0,Blk.row (Row.G [AV.bool sure])),(0,Blk.row (Row.G [AV.ptrT (some 0) Z0 0])),(0,Blk.row (Row.G [AV.nils])),(0,L)] })) (Row.M [Seg.one (AV.int .i64 w),Seg.one (slA 2 ls zs),Seg.one (slA 3 ld zd),Seg.one (AV.slcT none (Row.M [Seg.arr .i64 sz (mulO ls 2)]) 2 ls true),Seg.arr .i64 kd 144]):=by kernel_rfl
theorem t36B2 (n:Nat) (w:Int) (ls ld:Nat) (zs zd sz kd:Nat→Int) (H:Heap) (p:Int) (sure:Bool) (L:Blk) (k:Nat) (y:Nat→Int) (v m:Nat) (f1:Nat→Nat→Int) (f2:Nat→Nat):execT (cx36 n) (il (ctG noCt 88 (g88 (tabR 2 w ls ld zs zd sz kd) p sure (sl1 k y false))) n 0) noBT noRT qBd (hints (fr36Y p)) (lv0::lv0::lv36 w ls ld zs zd sz kd sure (.slc 0 5 v 0 1 m none) [(0,L),(v,.row (.F (fun j=>sl1 (f2 j) (f1 j) false) m))]::H) =
 (fun (Z0:Row)=>((fun (Z1:Lvl)=>((fun (Z2:Lvl)=>((fun (Z3:HFrm)=>((fun (Z4:Lvl)=>Tr.ite (leI (Int.ofNat 0) p) (Tr.req (inI p ls) (Tr.req (ltN (addO (idO 0 p 2) 1) (mulO ls 2)) (Tr.ite (eqI (sz (addO (idO 0 p 2) 1)) (Int.ofNat 0)) (Tr.ok (Ex.normal,[(3,AV.ptr 2 1 0 0,none),(6,AV.ptr 2 2 0 0,none),(8,AV.ptr 2 3 0 0,none),(9,AV.int .i64 p,none),(34,AV.bool true,some 1)],lv0::lv0::Z1::H)) (Tr.reqP (AV.ptrT (some 2) Z0 0=AV.ptrT (some 2) Z0 0∧p=p∧sure=sure) (Tr.req (inI (Int.ofNat 0) k) (Tr.req (ltN 0 k) (Tr.ite (eqI (y 0) p) (Tr.req (roomO m 1 24) (Tr.req (leN 1 1) (Tr.req (eqN v v) (Tr.req (eqN (addO 0 m) m) (Tr.reqP (allS (fun j=>AV.slcT none (Row.M [Seg.arr .i64 (f1 (addO 0 j)) (f2 (addO 0 j))]) 1 (f2 (addO 0 j)) false) IntKind.i64 1 false) (Tr.ok (Ex.normal,[],Z4::lv0::Z2::H))))))) (Tr.ok (Ex.normal,Z3,lv0::lv0::Z1::H))))))))) (Tr.reqP (AV.ptrT (some 2) Z0 0=AV.ptrT (some 2) Z0 0∧p=p∧sure=sure) (Tr.req (inI (Int.ofNat 0) k) (Tr.req (ltN 0 k) (Tr.ite (eqI (y 0) p) (Tr.req (roomO m 1 24) (Tr.req (leN 1 1) (Tr.req (eqN v v) (Tr.req (eqN (addO 0 m) m) (Tr.reqP (allS (fun j=>AV.slcT none (Row.M [Seg.arr .i64 (f1 (addO 0 j)) (f2 (addO 0 j))]) 1 (f2 (addO 0 j)) false) IntKind.i64 1 false) (Tr.ok (Ex.normal,[],Z4::lv0::Z2::H))))))) (Tr.ok (Ex.normal,Z3,lv0::lv0::Z1::H))))))) { lock:=false,bs:=[(0,Blk.row (Row.G [AV.slcT none (Row.M [Seg.arr .i64 y k]) 1 k false]))] })) [(8,AV.ptr 2 3 0 0,none),(10,AV.slcT none (Row.M [Seg.arr .i64 y k]) 1 k false,none),(43,AV.bool false,some 1)])) { lock:=false,bs:=[(0,Blk.row (Row.G [AV.int .i64 w,slA 2 ls zs,slA 3 ld zd])),(0,Blk.row (Row.G [AV.bool sure])),(0,Blk.row (Row.G [AV.ptrT (some 0) Z0 0])),(0,Blk.row (Row.G [AV.slc 0 5 (Nat.succ v) 0 1 (addO m 1) none])),(0,L),(Nat.succ v,Blk.row (Row.F (fun j=>AV.slcT none (Row.M [Seg.arr .i64 (selZ (ltN j m) (f1 (addO 0 j)) y) (selN (ltN j m) (f2 (addO 0 j)) k)]) 1 (selN (ltN j m) (f2 (addO 0 j)) k) false) (addO m 1)))] })) { lock:=false,bs:=[(0,Blk.row (Row.G [AV.int .i64 w,slA 2 ls zs,slA 3 ld zd])),(0,Blk.row (Row.G [AV.bool sure])),(0,Blk.row (Row.G [AV.ptrT (some 0) Z0 0])),(0,Blk.row (Row.G [AV.slc 0 5 v 0 1 m none])),(0,L),(v,Blk.row (Row.F (fun j=>AV.slcT none (Row.M [Seg.arr .i64 (f1 j) (f2 j)]) 1 (f2 j) false) m))] })) (Row.M [Seg.one (AV.int .i64 w),Seg.one (slA 2 ls zs),Seg.one (slA 3 ld zd),Seg.one (AV.slcT none (Row.M [Seg.arr .i64 sz (mulO ls 2)]) 2 ls true),Seg.arr .i64 kd 144]):=by kernel_rfl
end Go.Eng
end
section
namespace Go.Eng
open Go.Proofs
set_option linter.unusedVariables false
set_option linter.unusedSimpArgs false
set_option maxRecDepth 100000
noncomputable def srtL (p:Int):List Int→List Int
 | []=>[p]
 | y::r=>(List.range (r.length+2)).map (srtF (lstO (p::y::r)) (r.length+1))
theorem insF_off:∀ (j:Nat) (z:Nat→Int) (i:Nat),j<i→insF z j i=z i
 | 0,_,_,_=>rfl
 | j + 1,z,i,h=>by
   unfold insF
   split
   · rw[insF_off j _ i (by omega)]
     unfold swZ
     rw[updO_fn]
     simp only[]
     rw[if_neg (by omega),if_neg (by omega)]
   · rfl
theorem srtF_off:∀ (k:Nat) (z:Nat→Int) (i:Nat),k<i→srtF z k i=z i
 | 0,_,_,_=>rfl
 | k+1,z,i,h=>by
   unfold srtF
   rw[insF_off (k+1) _ i h,srtF_off k z i (by omega)]
theorem lst_val (L:List Int) (i:Nat):lstO L i=L.getD i 0:=by rw[lstO_fn]
theorem lst_srt (p y:Int) (r:List Int):lstO (srtL p (y::r))=srtF (lstO (p::y::r)) (r.length+1):=by
 funext i
 rw[lst_val]
 unfold srtL
 by_cases h:i<r.length+2
 · simp[h]
 · rw[srtF_off _ _ _ (by omega),lst_val,List.getD_eq_getElem?_getD,List.getD_eq_getElem?_getD,List.getElem?_eq_none (by simp;omega),List.getElem?_eq_none (by simp;omega)]
theorem srtL_len (p:Int) (L:List Int):(srtL p L).length=L.length+1:=by
 cases L<;>simp[srtL]
theorem grpV_more (p y:Int) (r:List Int):grpV p (y::r)=sl1 (srtL p (y::r)).length (lstO (srtL p (y::r))) false:=by
 rw[lst_srt,srtL_len];rfl
noncomputable def gpL (kd:Nat→Int) (sure:Bool) (ls:Nat) (p:Int):List Int:=srtL p (grpL kd sure ls p)
noncomputable def gpB (sz kd:Nat→Int) (sure:Bool) (ls:Nat) (p:Int):Bool:=!(decide (0≤p) && decide (sz (p.toNat*2+1)=0)) && decide (lstO (gpL kd sure ls p) 0=p)
noncomputable def gpStep (sz kd:Nat→Int) (sure:Bool) (ls:Nat) (p:Int) (Ls:List (List Int)):List (List Int):=if gpB sz kd sure ls p=true then Ls++[gpL kd sure ls p] else Ls
noncomputable def lvGP (w:Int) (ls ld:Nat) (zs zd sz kd:Nat→Int) (sure:Bool) (B:Blk):List (List Int)→Lvl
 | []=>lv36 w ls ld zs zd sz kd sure .nils [(0,B)]
 | x::r=>lv36 w ls ld zs zd sz kd sure (.slc 0 5 r.length 0 1 (r.length+1) none) [(0,B),(r.length,.row (.F (fun j=>sl1 (el2 (x::r) j) (el1 (x::r) j) false) (r.length+1)))]
section
variable (n:Nat) (w:Int) (ls ld:Nat) (zs zd sz kd:Nat→Int) (H:Heap) (sure:Bool)
theorem il36 (p:Int) (hp:-2≤p∧p<ls) (hls:ls≤10) (l:AV) (hl:l=grpV p (grpL kd sure ls p)):(il (ctG noCt 88 (g88 (tabR 2 w ls ld zs zd sz kd) p sure l)) (n+6) 0).Ok (cd (n+6)):=by
 subst hl
 refine il_ok _ (n+6) 0 (fun k=>ctG_ok (noCt_ok _) (fun args p' v hg hp' H=>?_))
 unfold g88 at hg
 split at hg
 · simp only[nP] at hg
   obtain ⟨rfl,rfl⟩:=hg
   obtain ⟨rfl,rfl,rfl⟩:=hp'
   rw[show n+6+k=n+k+6 by omega]
   exact c88 _ 2 w ls ld zs zd _ _ H _ _ hp hls
 · cases hg
theorem bd36 (p:Int) (hp:-2≤p∧p<ls) (hls:ls≤10) (B:Blk) (Ls:List (List Int)) (hL:Ls.length≤20):∃ fr' lv,exec (cx36 (n+6)) qBd (fr36Y p) (lv0::lv0::lvGP w ls ld zs zd sz kd sure B Ls::H)=some (.normal,fr',lv::lv0::lvGP w ls ld zs zd sz kd sure B (gpStep sz kd sure ls p Ls)::H):=by
 have fin:∀ {T:Tr Res} {S:List (List Int)} (l:AV),l=grpV p (grpL kd sure ls p)→execT (cx36 (n+6)) (il (ctG noCt 88 (g88 (tabR 2 w ls ld zs zd sz kd) p sure l)) (n+6) 0) noBT noRT qBd (hints (fr36Y p)) (lv0::lv0::lvGP w ls ld zs zd sz kd sure B Ls::H)=T→(T.all fun x=>x.1=.normal∧∃ lv,x.2.2=lv::lv0::lvGP w ls ld zs zd sz kd sure B S::H)→∃ fr' lv,exec (cx36 (n+6)) qBd (fr36Y p) (lv0::lv0::lvGP w ls ld zs zd sz kd sure B Ls::H)=some (.normal,fr',lv::lv0::lvGP w ls ld zs zd sz kd sure B S::H):=by
  rintro T S l hl rfl ⟨x,h1,h2,lv,h3⟩
  have:=execT_ok (cx:=cx36 (n+6)) (il36 n w ls ld zs zd sz kd sure p hp hls l hl) qBd (noBT_ok _ _) (noRT_ok _ _) _ _ _ h1
  rw[hints_eq] at this
  refine ⟨strip x.2.1,lv,this.trans ?_⟩
  obtain ⟨e,f,g⟩:=x
  dsimp only at h2 h3
  subst h2;subst h3;rfl
 have hg:gpB sz kd sure ls p=(!(decide (0≤p) && decide (sz (p.toNat*2+1)=0)) && decide (lstO (gpL kd sure ls p) 0=p)):=rfl
 have ei:addO (idO 0 p 2) 1=p.toNat*2+1:=by rw[addO_eq,idO_eq];omega
 have hgl:gpL kd sure ls p=srtL p (grpL kd sure ls p):=rfl
 have hlen:(grpL kd sure ls p).length≤ls+2:=grpL_len hp
 unfold gpStep
 have ho:=el_one (gpL kd sure ls p)
 have ha1:=el1_app Ls (gpL kd sure ls p) _ rfl
 have ha2:=el2_app Ls (gpL kd sure ls p) _ rfl
 rw[hgl] at hg ho ha1 ha2 ⊢
 generalize grpL kd sure ls p=l at *
 cases l with
 | nil =>
   have e1:(srtL p [])=[p]:=rfl
   have e0:lstO [p] 0=p:=by rw[lst_val];rfl
   rw[e1] at hg ho ha1 ha2 ⊢
   rw[e0] at hg
   cases Ls with
   | nil =>
     refine fin (slI p) rfl (t36A1 (n+6) w ls ld zs zd sz kd H p sure B) ?_
     rw[ei]
     repeat' first | (refine Tr.all_ite (fun hc=>?_) (fun hc=>?_)<;>(try simp (disch:=omega) only[nV,nW] at hc)<;>try omega) | (refine Tr.all_req ?_ ?_;· (try simp (disch:=omega) only[nV,nW]);try omega) | (refine Tr.all_reqP ?_ ?_;· first | exact trivial | rfl | exact ⟨rfl,rfl⟩ | exact ⟨rfl,rfl,rfl⟩ | (simp (disch:=omega) only[nV,nW];done) | ((try simp (disch:=omega) only[nV,nW]);omega)) | fail
     all_goals refine Tr.all_ok ⟨rfl,?_⟩
     all_goals first
      | (rw[if_neg (by rw[hg];simp only[Bool.and_eq_true,Bool.not_eq_true',Bool.and_eq_false_iff,decide_eq_true_eq,decide_eq_false_iff_not,and_true];omega)];exact ⟨_,rfl⟩)
      | (rw[if_pos (by rw[hg];simp only[Bool.and_eq_true,Bool.not_eq_true',Bool.and_eq_false_iff,decide_eq_true_eq,decide_eq_false_iff_not,and_true];omega)]
         show ∃ lv,_=lv::lv0::lv36 w ls ld zs zd sz kd sure (.slc 0 5 0 0 1 1 none) [(0,B),(0,.row (.F (fun j=>sl1 (el2 [[p]] j) (el1 [[p]] j) false) 1))]::H
         rw[ho.1,ho.2]
         exact ⟨_,rfl⟩)
   | cons x r =>
     have hL':r.length+1≤20:=by simpa using hL
     have hz:∀ j,selZ (ltN j (r.length+1)) (el1 (x::r) (addO 0 j)) (lstO [p])=el1 (x::r++[[p]]) j:=fun j=>congrFun ha1 j
     have hn:∀ j,selN (ltN j (r.length+1)) (el2 (x::r) (addO 0 j)) 1=el2 (x::r++[[p]]) j:=fun j=>congrFun ha2 j
     refine fin (slI p) rfl (t36B1 (n+6) w ls ld zs zd sz kd H p sure B r.length (r.length+1) (el1 (x::r)) (el2 (x::r))) ?_
     rw[ei]
     repeat' first | (refine Tr.all_ite (fun hc=>?_) (fun hc=>?_)<;>(try simp (disch:=omega) only[nV,nW,allS_ok] at hc)<;>try omega) | (refine Tr.all_req ?_ ?_;· (try simp (disch:=omega) only[nV,nW,allS_ok]);try omega) | (refine Tr.all_reqP ?_ ?_;· first | exact trivial | rfl | exact ⟨rfl,rfl⟩ | exact ⟨rfl,rfl,rfl⟩ | (simp (disch:=omega) only[nV,nW,allS_ok];done) | ((try simp (disch:=omega) only[nV,nW,allS_ok]);omega)) | fail
     all_goals refine Tr.all_ok ⟨rfl,?_⟩
     all_goals first
      | (rw[if_neg (by rw[hg];simp only[Bool.and_eq_true,Bool.not_eq_true',Bool.and_eq_false_iff,decide_eq_true_eq,decide_eq_false_iff_not,and_true];omega)];exact ⟨_,rfl⟩)
      | (rw[if_pos (by rw[hg];simp only[Bool.and_eq_true,Bool.not_eq_true',Bool.and_eq_false_iff,decide_eq_true_eq,decide_eq_false_iff_not,and_true];omega)]
         simp only[hz,hn]
         simp only[addO_eq]
         have e4:(r++[[p]]).length=r.length+1:=by simp
         show ∃ lv,_=lv::lv0::lv36 w ls ld zs zd sz kd sure (.slc 0 5 (r++[[p]]).length 0 1 ((r++[[p]]).length+1) none) [(0,B),((r++[[p]]).length,.row (.F (fun j=>sl1 (el2 (x::r++[[p]]) j) (el1 (x::r++[[p]]) j) false) ((r++[[p]]).length+1)))]::H
         rw[e4]
         exact ⟨_,rfl⟩)
 | cons y s =>
   have hs:s.length+1≤ls+2:=by simpa using hlen
   have h1:(srtL p (y::s)).length=s.length+2:=srtL_len _ _
   have h2:grpV p (y::s)=sl1 (srtL p (y::s)).length (lstO (srtL p (y::s))) false:=grpV_more p y s
   generalize srtL p (y::s)=l at *
   cases Ls with
   | nil =>
     refine fin (sl1 l.length (lstO l) false) h2.symm (t36A2 (n+6) w ls ld zs zd sz kd H p sure B l.length (lstO l)) ?_
     rw[ei]
     repeat' first | (refine Tr.all_ite (fun hc=>?_) (fun hc=>?_)<;>(try simp (disch:=omega) only[nV,nW] at hc)<;>try omega) | (refine Tr.all_req ?_ ?_;· (try simp (disch:=omega) only[nV,nW]);try omega) | (refine Tr.all_reqP ?_ ?_;· first | exact trivial | rfl | exact ⟨rfl,rfl⟩ | exact ⟨rfl,rfl,rfl⟩ | (simp (disch:=omega) only[nV,nW];done) | ((try simp (disch:=omega) only[nV,nW]);omega)) | fail
     all_goals refine Tr.all_ok ⟨rfl,?_⟩
     all_goals first
      | (rw[if_neg (by rw[hg];simp only[Bool.and_eq_true,Bool.not_eq_true',Bool.and_eq_false_iff,decide_eq_true_eq,decide_eq_false_iff_not,and_true];omega)];exact ⟨_,rfl⟩)
      | (rw[if_pos (by rw[hg];simp only[Bool.and_eq_true,Bool.not_eq_true',Bool.and_eq_false_iff,decide_eq_true_eq,decide_eq_false_iff_not,and_true];omega)]
         show ∃ lv,_=lv::lv0::lv36 w ls ld zs zd sz kd sure (.slc 0 5 0 0 1 1 none) [(0,B),(0,.row (.F (fun j=>sl1 (el2 [l] j) (el1 [l] j) false) 1))]::H
         rw[ho.1,ho.2]
         exact ⟨_,rfl⟩)
   | cons x r =>
     have hL':r.length+1≤20:=by simpa using hL
     have hz:∀ j,selZ (ltN j (r.length+1)) (el1 (x::r) (addO 0 j)) (lstO l)=el1 (x::r++[l]) j:=fun j=>congrFun ha1 j
     have hn:∀ j,selN (ltN j (r.length+1)) (el2 (x::r) (addO 0 j)) l.length=el2 (x::r++[l]) j:=fun j=>congrFun ha2 j
     refine fin (sl1 l.length (lstO l) false) h2.symm (t36B2 (n+6) w ls ld zs zd sz kd H p sure B l.length (lstO l) r.length (r.length+1) (el1 (x::r)) (el2 (x::r))) ?_
     rw[ei]
     repeat' first | (refine Tr.all_ite (fun hc=>?_) (fun hc=>?_)<;>(try simp (disch:=omega) only[nV,nW,allS_ok] at hc)<;>try omega) | (refine Tr.all_req ?_ ?_;· (try simp (disch:=omega) only[nV,nW,allS_ok]);try omega) | (refine Tr.all_reqP ?_ ?_;· first | exact trivial | rfl | exact ⟨rfl,rfl⟩ | exact ⟨rfl,rfl,rfl⟩ | (simp (disch:=omega) only[nV,nW,allS_ok];done) | ((try simp (disch:=omega) only[nV,nW,allS_ok]);omega)) | fail
     all_goals refine Tr.all_ok ⟨rfl,?_⟩
     all_goals first
      | (rw[if_neg (by rw[hg];simp only[Bool.and_eq_true,Bool.not_eq_true',Bool.and_eq_false_iff,decide_eq_true_eq,decide_eq_false_iff_not,and_true];omega)];exact ⟨_,rfl⟩)
      | (rw[if_pos (by rw[hg];simp only[Bool.and_eq_true,Bool.not_eq_true',Bool.and_eq_false_iff,decide_eq_true_eq,decide_eq_false_iff_not,and_true];omega)]
         simp only[hz,hn]
         simp only[addO_eq]
         have e4:(r++[l]).length=r.length+1:=by simp
         show ∃ lv,_=lv::lv0::lv36 w ls ld zs zd sz kd sure (.slc 0 5 (r++[l]).length 0 1 ((r++[l]).length+1) none) [(0,B),((r++[l]).length,.row (.F (fun j=>sl1 (el2 (x::r++[l]) j) (el1 (x::r++[l]) j) false) ((r++[l]).length+1)))]::H
         rw[e4]
         exact ⟨_,rfl⟩)
end
end Go.Eng
end
