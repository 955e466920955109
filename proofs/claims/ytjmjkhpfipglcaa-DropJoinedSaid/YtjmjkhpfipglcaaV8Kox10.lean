/- Drop: Groups of the program. -/
import Derived.Test.YtjmjkhpfipglcaaV8Kjx5
import Derived.Test.YtjmjkhpfipglcaaV8DrMx13
import Derived.Test.YtjmjkhpfipglcaaV8DrAx6
import Derived.Test.YtjmjkhpfipglcaaV8Fbx3
section
namespace Go.Eng
open Go.Proofs
set_option linter.unusedVariables false
set_option linter.unusedSimpArgs false
set_option maxRecDepth 100000
noncomputable def frQ (w:Int) (ls ld:Nat) (zs zd sz kd:Nat→Int) (q:Int):Frm:=[(0,.yld 1 4),(1,.ptrT (some 1) (.G [tabR 0 w ls ld zs zd sz kd]) 0),(3,.int .i64 q)]
noncomputable def lvPm (w:Int) (ls ld:Nat) (zs zd sz kd:Nat→Int) (sure:Bool) (v m:Nat) (f1:Nat→Nat→Int) (f2:Nat→Nat):Lvl:=lv36 w ls ld zs zd sz kd sure (.slc 0 5 v 0 1 m none) [(0,.dead),(v,.row (.F (fun j=>sl1 (f2 j) (f1 j) false) m))]
theorem t109q (n:Nat) (w:Int) (ls ld:Nat) (zs zd sz kd:Nat→Int) (G G':Heap) (q:Int) (b:Bool):execT (cxD n 109 18) (rdE (il noCt n 0) 1 4 [.int .i64 q] (lv0::G) (.ok (.bool b,lv0::G'))) noBT noRT (part Try.f109 [1,0,0]) (hints (frQ w ls ld zs zd sz kd q)) (lv0::G) =
 (fun (Z0:Nat×AV×Option Nat)=>Tr.ite (ltI q (Int.ofNat ls)) (Tr.reqP ([AV.int .i64 q]=[AV.int .i64 q]∧lv0::G=lv0::G) (Tr.ite (notB b) (Tr.ok (Ex.ret,[(0,AV.yld 1 4,none),Z0,(3,AV.int .i64 q,none),(17,AV.bool true,some 1)],lv0::G')) (Tr.ok (Ex.normal,[(0,AV.yld 1 4,none),Z0,(3,AV.int .i64 (addI .i64 q (Int.ofNat 1)),none)],lv0::G')))) (Tr.ok (Ex.exit 0,[(0,AV.yld 1 4,none),Z0,(3,AV.int .i64 q,none),(11,AV.bool false,some 1)],lv0::G))) (1,AV.ptrT (some 1) (Row.G [AV.ptrT (some 0) (Row.M [Seg.one (AV.int .i64 w),Seg.one (slA 2 ls zs),Seg.one (slA 3 ld zd),Seg.one (AV.slcT none (Row.M [Seg.arr .i64 sz (mulO ls 2)]) 2 ls true),Seg.arr .i64 kd 144]) 0]) 0,none):=by kernel_rfl
theorem t109qe (n:Nat) (w:Int) (ls ld:Nat) (zs zd sz kd:Nat→Int) (G:Heap) (q:Int):execT (cxD n 109 18) (il noCt n 0) noBT noRT (part Try.f109 [1,0,0]) (hints (frQ w ls ld zs zd sz kd q)) (lv0::G) =
 Tr.ite (ltI q (Int.ofNat ls)) Tr.bad (Tr.ok (Ex.exit 0,[(0,AV.yld 1 4,none),(1,AV.ptrT (some 1) (Row.G [AV.ptrT (some 0) (Row.M [Seg.one (AV.int .i64 w),Seg.one (slA 2 ls zs),Seg.one (slA 3 ld zd),Seg.one (AV.slcT none (Row.M [Seg.arr .i64 sz (mulO ls 2)]) 2 ls true),Seg.arr .i64 kd 144]) 0]) 0,none),(3,AV.int .i64 q,none),(11,AV.bool false,some 1)],lv0::G)):=by kernel_rfl
theorem u109q (n:Nat) (w:Int) (ls ld:Nat) (zs zd sz kd:Nat→Int) (G G1:Heap) (fA:Frm):bodyT Try.prog (cd n) 100000 109 Try.f109 (Kt.kt 109) (il noCt n 0) (blkE noBT 0 (frQ w ls ld zs zd sz kd (-2)) (lv0::G) (.ok (.normal,hints fA,lv0::G1))) noRT [(.yld 0 4,none),(.ptrT (some 0) (.G [tabR 0 w ls ld zs zd sz kd]) 0,none)] G =
 (fun (Z0:Frm)=>Tr.reqP (Z0=Z0∧lv0::G=lv0::G) (Tr.ok ((AV.tup [],none),G1))) [(0,AV.yld 1 4),(1,AV.ptrT (some 1) (Row.G [AV.ptrT (some 0) (Row.M [Seg.one (AV.int .i64 w),Seg.one (slA 2 ls zs),Seg.one (slA 3 ld zd),Seg.one (AV.slcT none (Row.M [Seg.arr .i64 sz (mulO ls 2)]) 2 ls true),Seg.arr .i64 kd 144]) 0]) 0),(3,AV.int .i64 (Int.negSucc 1))]:=by kernel_rfl
theorem u36x (n:Nat) (w:Int) (ls ld:Nat) (zs zd sz kd:Nat→Int) (H:Heap) (sure:Bool) (e:Int):bodyT Try.prog (cd (n+15)) 100000 36 Try.f36 (Kt.kt 36) (il (ctG (ctG noCt 58 (g58 (bathA w ls zs ld zd) .nilp e)) 88 (fun _=>none)) (n+14) 1) noBT noRT [(bathA w ls zs ld zd,none),(.bool sure,none)] H =
 Tr.reqP (bathA w ls zs ld zd=bathA w ls zs ld zd) (Tr.ite (notB (eqI e (Int.ofNat 0))) (Tr.ok ((AV.tup [AV.nils,AV.int .i64 e],none),H)) Tr.bad):=by kernel_rfl
theorem u36a (n:Nat) (w:Int) (ls ld:Nat) (zs zd sz kd:Nat→Int) (H:Heap) (sure:Bool):bodyT Try.prog (cd (n+15)) 100000 36 Try.f36 (Kt.kt 36) (il (ctG (ctG noCt 58 (g58 (bathA w ls zs ld zd) (tabV w ls ld zs zd sz kd) 0)) 88 (fun _=>none)) (n+14) 1) noBT (rgE noRT (fun _=>true) (fr36 w ls ld zs zd sz kd) (lv36 w ls ld zs zd sz kd sure .nils []::H) (.ok (.normal,hints (fr36 w ls ld zs zd sz kd),lv36 w ls ld zs zd sz kd sure .nils [(0,.dead)]::H))) [(bathA w ls zs ld zd,none),(.bool sure,none)] H =
 (fun (Z0:Row)=>((fun (Z1:Lvl)=>((fun (Z2:Frm)=>Tr.reqP (bathA w ls zs ld zd=bathA w ls zs ld zd) (Tr.ite (notB (eqI (Int.ofNat 0) (Int.ofNat 0))) (Tr.ok ((AV.tup [AV.nils,AV.int .i64 (Int.ofNat 0)],none),H)) (Tr.reqP (Z2=Z2∧Z1::H=Z1::H) (Tr.ok ((AV.tup [AV.nils,AV.int .i64 (Int.ofNat 0)],none),H))))) [(3,AV.ptr 0 1 0 0),(6,AV.ptr 0 2 0 0),(8,AV.ptr 0 3 0 0),(20,AV.fn (Fn.func 109) [] [AV.ptrT (some 0) Z0 0])])) { lock:=false,bs:=[(0,Blk.row (Row.G [AV.int .i64 w,slA 2 ls zs,slA 3 ld zd])),(0,Blk.row (Row.G [AV.bool sure])),(0,Blk.row Z0),(0,Blk.row (Row.G [AV.nils]))] })) (Row.G [AV.ptrT (some 0) (Row.M [Seg.one (AV.int .i64 w),Seg.one (slA 2 ls zs),Seg.one (slA 3 ld zd),Seg.one (AV.slcT none (Row.M [Seg.arr .i64 sz (mulO ls 2)]) 2 ls true),Seg.arr .i64 kd 144]) 0]):=by kernel_rfl
theorem u36b (n:Nat) (w:Int) (ls ld:Nat) (zs zd sz kd:Nat→Int) (H:Heap) (sure:Bool) (v m:Nat) (f1:Nat→Nat→Int) (f2:Nat→Nat):bodyT Try.prog (cd (n+15)) 100000 36 Try.f36 (Kt.kt 36) (il (ctG (ctG noCt 58 (g58 (bathA w ls zs ld zd) (tabV w ls ld zs zd sz kd) 0)) 88 (fun _=>none)) (n+14) 1) noBT (rgE noRT (fun _=>true) (fr36 w ls ld zs zd sz kd) (lv36 w ls ld zs zd sz kd sure .nils []::H) (.ok (.normal,hints (fr36 w ls ld zs zd sz kd),lvPm w ls ld zs zd sz kd sure v m f1 f2::H))) [(bathA w ls zs ld zd,none),(.bool sure,none)] H =
 (fun (Z0:Row)=>((fun (Z1:Lvl)=>((fun (Z2:Frm)=>Tr.reqP (bathA w ls zs ld zd=bathA w ls zs ld zd) (Tr.ite (notB (eqI (Int.ofNat 0) (Int.ofNat 0))) (Tr.ok ((AV.tup [AV.nils,AV.int .i64 (Int.ofNat 0)],none),H)) (Tr.reqP (Z2=Z2∧Z1::H=Z1::H) (Tr.req (eqN v v) (Tr.req (inO 0 m 0 m) (Tr.ok ((AV.tup [AV.slcT none (Row.F (fun j=>AV.slcT none (Row.M [Seg.arr .i64 (f1 (addO 0 j)) (f2 (addO 0 j))]) 1 (f2 (addO 0 j)) false) m) 1 m false,AV.int .i64 (Int.ofNat 0)],none),H))))))) [(3,AV.ptr 0 1 0 0),(6,AV.ptr 0 2 0 0),(8,AV.ptr 0 3 0 0),(20,AV.fn (Fn.func 109) [] [AV.ptrT (some 0) Z0 0])])) { lock:=false,bs:=[(0,Blk.row (Row.G [AV.int .i64 w,slA 2 ls zs,slA 3 ld zd])),(0,Blk.row (Row.G [AV.bool sure])),(0,Blk.row Z0),(0,Blk.row (Row.G [AV.nils]))] })) (Row.G [AV.ptrT (some 0) (Row.M [Seg.one (AV.int .i64 w),Seg.one (slA 2 ls zs),Seg.one (slA 3 ld zd),Seg.one (AV.slcT none (Row.M [Seg.arr .i64 sz (mulO ls 2)]) 2 ls true),Seg.arr .i64 kd 144]) 0]):=by kernel_rfl
noncomputable def rec36 (w:Int) (ls ld:Nat) (zs zd sz kd:Nat→Int):ALoop:={ state:=.ready,pending:=none,fn:=36,nt:=49,fr:=fr36 w ls ld zs zd sz kd,params:=[21],assign:=qAs,body:=qBd }
noncomputable def gpN (sz kd:Nat→Int) (sure:Bool) (ls:Nat):Nat→List (List Int)
 | 0=>[]
 | j+1=>gpStep sz kd sure ls ((j:Int)-2) (gpN sz kd sure ls j)
theorem gpN_len (sz kd:Nat→Int) (sure:Bool) (ls:Nat):∀ j,(gpN sz kd sure ls j).length≤j
 | 0=>Nat.le_refl _
 | j+1=>by
   have:=gpN_len sz kd sure ls j
   unfold gpN gpStep
   split
   · simp;omega
   · omega
theorem r36o:rangesOf (bodyOf Try.f36)=[(.tmp 20,#[21],qAs,qBd)]:=by kernel_rfl
section
variable (n:Nat) (w:Int) (ls ld:Nat) (zs zd sz kd:Nat→Int) (H:Heap) (sure:Bool)
theorem as36 (q:Int) (L0:Lvl) (G:Heap):exec (cx36 n) qAs (fr36Z w ls ld zs zd sz kd q) (lv0::lv0::L0::G)=some (.normal,fr36Y q,lv0::lv0::L0::G):=by
 have e:execT (cx36 n) (il noCt n 0) noBT noRT qAs (hints (fr36Z w ls ld zs zd sz kd q)) (lv0::lv0::L0::G)=.ok (.normal,hints (fr36Y q),lv0::lv0::L0::G):=by kernel_rfl
 have:=execT_ok (cx:=cx36 n) (il_no0 n) qAs (noBT_ok _ _) (noRT_ok _ _) (hints (fr36Z w ls ld zs zd sz kd q)) (lv0::lv0::L0::G) _ (by rw[e];rfl)
 rw[hints_eq] at this
 simp only[Res.st,hints_eq] at this
 exact this
theorem rd36 (p:Int) (hp:-2≤p∧p<ls) (hls:ls≤10) (Ls:List (List Int)) (hL:Ls.length≤20):cd (n+7) (.round 1 4) [.int .i64 p] (lv0::lvGP w ls ld zs zd sz kd sure (.loop (rec36 w ls ld zs zd sz kd)) Ls::H) =
 some (.bool true,lv0::lvGP w ls ld zs zd sz kd sure (.loop (rec36 w ls ld zs zd sz kd)) (gpStep sz kd sure ls p Ls)::H):=by
 obtain ⟨fr',lv,h2⟩:=bd36 n w ls ld zs zd sz kd H sure p hp hls (.loop { rec36 w ls ld zs zd sz kd with state:=.busy }) Ls hL
 have ha:=as36 (n+6) w ls ld zs zd sz kd p (lvGP w ls ld zs zd sz kd sure (.loop (rec36 w ls ld zs zd sz kd)) Ls) H
 cases Ls with
 | nil =>
   generalize gpStep sz kd sure ls p []=S at *
   cases S with
   | nil=>exact round_of (P:=Try.prog) (ora:=oraD) (KT:=Kt.kt) (fu:=100000) (n:=n+6) (d:=1) (i:=4) (args:=[.int .i64 p]) (H:=lv0::lvGP w ls ld zs zd sz kd sure (.loop (rec36 w ls ld zs zd sz kd)) []::H) (l:=rec36 w ls ld zs zd sz kd) (l1:=rec36 w ls ld zs zd sz kd) (l2:={ rec36 w ls ld zs zd sz kd with state:=.busy }) (fr:=fr36Z w ls ld zs zd sz kd p) rfl rfl rfl rfl ha rfl rfl h2 rfl
   | cons a b=>exact round_of (P:=Try.prog) (ora:=oraD) (KT:=Kt.kt) (fu:=100000) (n:=n+6) (d:=1) (i:=4) (args:=[.int .i64 p]) (H:=lv0::lvGP w ls ld zs zd sz kd sure (.loop (rec36 w ls ld zs zd sz kd)) []::H) (l:=rec36 w ls ld zs zd sz kd) (l1:=rec36 w ls ld zs zd sz kd) (l2:={ rec36 w ls ld zs zd sz kd with state:=.busy }) (fr:=fr36Z w ls ld zs zd sz kd p) rfl rfl rfl rfl ha rfl rfl h2 rfl
 | cons x r =>
   generalize gpStep sz kd sure ls p (x::r)=S at *
   cases S with
   | nil=>exact round_of (P:=Try.prog) (ora:=oraD) (KT:=Kt.kt) (fu:=100000) (n:=n+6) (d:=1) (i:=4) (args:=[.int .i64 p]) (H:=lv0::lvGP w ls ld zs zd sz kd sure (.loop (rec36 w ls ld zs zd sz kd)) (x::r)::H) (l:=rec36 w ls ld zs zd sz kd) (l1:=rec36 w ls ld zs zd sz kd) (l2:={ rec36 w ls ld zs zd sz kd with state:=.busy }) (fr:=fr36Z w ls ld zs zd sz kd p) rfl rfl rfl rfl ha rfl rfl h2 rfl
   | cons a b=>exact round_of (P:=Try.prog) (ora:=oraD) (KT:=Kt.kt) (fu:=100000) (n:=n+6) (d:=1) (i:=4) (args:=[.int .i64 p]) (H:=lv0::lvGP w ls ld zs zd sz kd sure (.loop (rec36 w ls ld zs zd sz kd)) (x::r)::H) (l:=rec36 w ls ld zs zd sz kd) (l1:=rec36 w ls ld zs zd sz kd) (l2:={ rec36 w ls ld zs zd sz kd with state:=.busy }) (fr:=fr36Z w ls ld zs zd sz kd p) rfl rfl rfl rfl ha rfl rfl h2 rfl
theorem l36 (hls:ls≤10):exec (cxD (n+7) 109 18) (.block 0 (.loop (part Try.f109 [1,0,0]))) (frQ w ls ld zs zd sz kd (-2)) (lv0::lvGP w ls ld zs zd sz kd sure (.loop (rec36 w ls ld zs zd sz kd)) []::H)=some (.normal,frQ w ls ld zs zd sz kd (((ls+2:Nat):Int)-2)++[(11,.bool false)],lv0::lvGP w ls ld zs zd sz kd sure (.loop (rec36 w ls ld zs zd sz kd)) (gpN sz kd sure ls (ls+2))::H):=by
 have:=forX (n:=n+7) (f:=109) (nt:=18) (c:=part Try.f109 [1,0,0]) 0 (fun j=>frQ w ls ld zs zd sz kd ((j:Int)-2)) (fun j=>lv0::lvGP w ls ld zs zd sz kd sure (.loop (rec36 w ls ld zs zd sz kd)) (gpN sz kd sure ls j)::H) (ls+2) (frQ w ls ld zs zd sz kd (((ls+2:Nat):Int)-2)++[(11,.bool false)],lv0::lvGP w ls ld zs zd sz kd sure (.loop (rec36 w ls ld zs zd sz kd)) (gpN sz kd sure ls (ls+2))::H) (by omega) (fun j hj=>?_) ?_
 · exact this
 · have hr:=rd36 n w ls ld zs zd sz kd H sure ((j:Int)-2) ⟨by omega,by omega⟩ hls (gpN sz kd sure ls j) (by have:=gpN_len sz kd sure ls j;omega)
   refine ex_all (t109q (n+7) w ls ld zs zd sz kd _ (lvGP w ls ld zs zd sz kd sure (.loop (rec36 w ls ld zs zd sz kd)) (gpN sz kd sure ls (j+1))::H) ((j:Int)-2) true) (rdE_ok (il_no0 (n+7)) (fun x hx=>?_)) (noBT_ok _ _) (noRT_ok _ _) ?_
   · rw[← Tr.ok_some hx];exact hr
   · have ej:IntKind.i64.wrap ((j:Int)-2+1)=((j+1:Nat):Int)-2:=by rw[wr_64 (by omega) (by omega)];omega
     repeat' first | (refine Tr.all_ite (fun hc=>?_) (fun hc=>?_)<;>(try simp (disch:=omega) only[nV,nW] at hc)<;>try omega) | (refine Tr.all_req ?_ ?_;· (try simp (disch:=omega) only[nV,nW]);try omega) | (refine Tr.all_reqP ?_ ?_;· first | exact trivial | rfl | exact ⟨rfl,rfl⟩ | exact ⟨rfl,rfl,rfl⟩ | (simp (disch:=omega) only[nV,nW];done) | ((try simp (disch:=omega) only[nV,nW]);omega)) | fail
     refine Tr.all_ok ⟨rfl,?_⟩
     simp only[addI_eq,ofNat_cast,Int.natCast_one]
     rw[ej]
     rfl
 · have:=ex_all (f:=109) (nt:=18) (Q:=fun x=>x=(.exit 0,frQ w ls ld zs zd sz kd (((ls+2:Nat):Int)-2)++[(11,.bool false)],lv0::lvGP w ls ld zs zd sz kd sure (.loop (rec36 w ls ld zs zd sz kd)) (gpN sz kd sure ls (ls+2))::H)) (t109qe (n+7) w ls ld zs zd sz kd (lvGP w ls ld zs zd sz kd sure (.loop (rec36 w ls ld zs zd sz kd)) (gpN sz kd sure ls (ls+2))::H) (((ls+2:Nat):Int)-2)) (il_no0 (n+7)) (noBT_ok _ _) (noRT_ok _ _) ?_
   · obtain ⟨x,h1,rfl⟩:=this;exact h1
   · repeat' first | (refine Tr.all_ite (fun hc=>?_) (fun hc=>?_)<;>(try simp (disch:=omega) only[nV,nW] at hc)<;>try omega) | (refine Tr.all_req ?_ ?_;· (try simp (disch:=omega) only[nV,nW]);try omega) | (refine Tr.all_reqP ?_ ?_;· first | exact trivial | rfl | exact ⟨rfl,rfl⟩ | exact ⟨rfl,rfl,rfl⟩ | (simp (disch:=omega) only[nV,nW];done) | ((try simp (disch:=omega) only[nV,nW]);omega)) | fail
     exact Tr.all_ok rfl
theorem c109q (hls:ls≤10):cd (n+8) (.fn 109) [.yld 0 4,.ptrT (some 0) (.G [tabR 0 w ls ld zs zd sz kd]) 0] (lvGP w ls ld zs zd sz kd sure (.loop (rec36 w ls ld zs zd sz kd)) []::H)=some (.tup [],lvGP w ls ld zs zd sz kd sure (.loop (rec36 w ls ld zs zd sz kd)) (gpN sz kd sure ls (ls+2))::H):=by
 refine fn_all (n:=n+7) Try.func109 rfl rfl rfl (u109q (n+7) w ls ld zs zd sz kd _ (lvGP w ls ld zs zd sz kd sure (.loop (rec36 w ls ld zs zd sz kd)) (gpN sz kd sure ls (ls+2))::H) (frQ w ls ld zs zd sz kd (((ls+2:Nat):Int)-2)++[(11,.bool false)])) (il_no0 (n+7)) (blkE_ok (noBT_ok _ _) b109 (fun x hx=>?_)) (noRT_ok _ _) ?_
 · refine (l36 n w ls ld zs zd sz kd H sure hls).trans ?_
   rw[← Tr.ok_some hx];simp only[Res.st,hints_eq]
 · refine Tr.all_reqP ⟨rfl,rfl⟩ (Tr.all_ok ⟨rfl,rfl⟩)
theorem c58:cd (n+14) (.fn 58) [bathA w ls zs ld zd] H=some (.tup [if chkB w ls ld zs zd≠0 then .nilp else tabV w ls ld zs zd (szs zd ld) (kdT w ls ld zs zd),.int .i64 (chkB w ls ld zs zd)],H):=by
 refine fn_all (n:=n+13) Try.func58 rfl rfl rfl (u58 n w ls ld zs zd (szs zd ld) (kdT w ls ld zs zd) H (chkB w ls ld zs zd) (ls≤10∧ld≤40∧∀ j,j<ld→0≤zd (j*3)∧zd (j*3)<ls)) (il_ok _ (n+11) 2 (fun k=>ctG_ok (ct19 n w ls ld zs zd k _ (noCt_ok _)) (fun args p v h hp H=>?_))) (noBT_ok _ _) (noRT_ok _ _) ?_
 · unfold g77 at h
   split at h
   · simp only[nP] at h
     obtain ⟨rfl,rfl⟩:=h
     obtain ⟨rfl,h1,h2,h3⟩:=hp
     rw[show n+11+k=n+3+k+8 by omega]
     exact c77 _ w ls ld zs zd H h1 h2 h3
   · cases h
 · by_cases e:chkB w ls ld zs zd=0
   · have hc:=chk_drops e
     rw[if_neg (fun h=>h e),e]
     refine Tr.all_reqP rfl (Tr.all_ite (fun h=>?_) (fun _=>Tr.all_reqP ⟨rfl,hc⟩ (Tr.all_ok ⟨rfl,rfl⟩)))
     simp[notB_eq,eqI_dec] at h
   · rw[if_pos e]
     refine Tr.all_reqP rfl (Tr.all_ite (fun _=>Tr.all_ok ⟨rfl,rfl⟩) (fun h=>?_))
     simp[notB_eq,eqI_dec] at h
     exact absurd h e
theorem ct58 (k:Nat) (t:AV) (e:Int) (ht:t=if chkB w ls ld zs zd≠0 then .nilp else tabV w ls ld zs zd (szs zd ld) (kdT w ls ld zs zd)) (he:e=chkB w ls ld zs zd):(ctG (ctG noCt 58 (g58 (bathA w ls zs ld zd) t e)) 88 (fun _=>none)).Ok (cd (n+14+k)):=by
 subst ht;subst he
 refine ctG_ok (ctG_ok (noCt_ok _) (fun args p v hg hp H=>?_)) (fun args p v hg hp H=>by cases hg)
 unfold g58 at hg
 split at hg
 · simp only[nP] at hg
   obtain ⟨rfl,rfl⟩:=hg
   subst hp
   rw[show n+14+k=n+k+14 by omega]
   exact c58 _ w ls ld zs zd H
 · cases hg
theorem rg36 (hls:ls≤10) (Ls:List (List Int)) (hL:gpN sz kd sure ls (ls+2)=Ls):exec (cxD (n+8) 36 49) (.rangeFunc (.tmp 20) #[21] qAs qBd) (fr36 w ls ld zs zd sz kd) (lv36 w ls ld zs zd sz kd sure .nils []::H) =
 some (.normal,fr36 w ls ld zs zd sz kd,lvGP w ls ld zs zd sz kd sure .dead Ls::H):=by
 have hc:=c109q n w ls ld zs zd sz kd H sure hls
 rw[hL] at hc
 cases Ls with
 | nil=>exact range_of (cx:=cxD (n+8) 36 49) (l:=rec36 w ls ld zs zd sz kd) (f:=.tmp 20) (ps:=#[21]) (fr:=fr36 w ls ld zs zd sz kd) (H:=lv36 w ls ld zs zd sz kd sure .nils []::H) (g:=109) (a:=[]) (b:=[.ptrT (some 0) (.G [tabR 0 w ls ld zs zd sz kd]) 0]) rfl rfl rfl hc rfl rfl rfl
 | cons x r=>exact range_of (cx:=cxD (n+8) 36 49) (l:=rec36 w ls ld zs zd sz kd) (f:=.tmp 20) (ps:=#[21]) (fr:=fr36 w ls ld zs zd sz kd) (H:=lv36 w ls ld zs zd sz kd sure .nils []::H) (g:=109) (a:=[]) (b:=[.ptrT (some 0) (.G [tabR 0 w ls ld zs zd sz kd]) 0]) rfl rfl rfl hc rfl rfl rfl
noncomputable def gpT:List (List Int):=gpN (szs zd ld) (kdT w ls ld zs zd) sure ls (ls+2)
noncomputable def gpA:AV:=if chkB w ls ld zs zd≠0 then .tup [.nils,.int .i64 (chkB w ls ld zs zd)] else match gpT w ls ld zs zd sure with
 | []=>.tup [.nils,.int .i64 0]
 | x::r=>.tup [slF (r.length+1) (el1 (x::r)) (el2 (x::r)),.int .i64 0]
theorem c36:cd (n+16) (.fn 36) [bathA w ls zs ld zd,.bool sure] H=some (gpA w ls ld zs zd sure,H):=by
 by_cases e:chkB w ls ld zs zd=0
 · have c:=chk_ok e
   have hc:=chk_drops e
   unfold gpA
   rw[if_neg (fun h=>h e)]
   have hrg:=rg36 (n+7) w ls ld zs zd (szs zd ld) (kdT w ls ld zs zd) H sure (by omega) (gpT w ls ld zs zd sure) rfl
   have hE:(0:Int)=chkB w ls ld zs zd:=e.symm
   have hT:tabV w ls ld zs zd (szs zd ld) (kdT w ls ld zs zd)=if chkB w ls ld zs zd≠0 then AV.nilp else tabV w ls ld zs zd (szs zd ld) (kdT w ls ld zs zd):=by rw[if_neg (fun h=>h e)]
   generalize gpT w ls ld zs zd sure=L at *
   cases L with
   | nil =>
     refine fn_all (n:=n+15) Try.func36 rfl rfl rfl (u36a n w ls ld zs zd (szs zd ld) (kdT w ls ld zs zd) H sure) (il_ok _ (n+14) 1 (fun k=>ct58 n w ls ld zs zd k _ 0 hT hE)) (noBT_ok _ _) (rgE_ok (noRT_ok _ _) (fun f ps a b _ hm x hx=>?_)) ?_
     · rw[r36o] at hm
       simp only[List.mem_cons,Prod.mk.injEq,List.not_mem_nil,or_false] at hm
       obtain ⟨rfl,rfl,rfl,rfl⟩:=hm
       refine hrg.trans ?_
       rw[← Tr.ok_some hx];simp only[Res.st,hints_eq];rfl
     · repeat' first | (refine Tr.all_ite (fun hc=>?_) (fun hc=>?_)<;>(try simp (disch:=omega) only[nV,nW] at hc)<;>try omega) | (refine Tr.all_req ?_ ?_;· (try simp (disch:=omega) only[nV,nW]);try omega) | (refine Tr.all_reqP ?_ ?_;· first | exact trivial | rfl | exact ⟨rfl,rfl⟩ | exact ⟨rfl,rfl,rfl⟩ | (simp (disch:=omega) only[nV,nW];done) | ((try simp (disch:=omega) only[nV,nW]);omega)) | fail
       exact Tr.all_ok ⟨rfl,rfl⟩
   | cons x r =>
     refine fn_all (n:=n+15) Try.func36 rfl rfl rfl (u36b n w ls ld zs zd (szs zd ld) (kdT w ls ld zs zd) H sure r.length (r.length+1) (el1 (x::r)) (el2 (x::r))) (il_ok _ (n+14) 1 (fun k=>ct58 n w ls ld zs zd k _ 0 hT hE)) (noBT_ok _ _) (rgE_ok (noRT_ok _ _) (fun f ps a b _ hm x hx=>?_)) ?_
     · rw[r36o] at hm
       simp only[List.mem_cons,Prod.mk.injEq,List.not_mem_nil,or_false] at hm
       obtain ⟨rfl,rfl,rfl,rfl⟩:=hm
       refine hrg.trans ?_
       rw[← Tr.ok_some hx];simp only[Res.st,hints_eq];rfl
     · repeat' first | (refine Tr.all_ite (fun hc=>?_) (fun hc=>?_)<;>(try simp (disch:=omega) only[nV,nW] at hc)<;>try omega) | (refine Tr.all_req ?_ ?_;· (try simp (disch:=omega) only[nV,nW]);try omega) | (refine Tr.all_reqP ?_ ?_;· first | exact trivial | rfl | exact ⟨rfl,rfl⟩ | exact ⟨rfl,rfl,rfl⟩ | (simp (disch:=omega) only[nV,nW];done) | ((try simp (disch:=omega) only[nV,nW]);omega)) | fail
       refine Tr.all_ok ⟨?_,rfl⟩
       simp only[addO_eq,Nat.zero_add]
       rfl
 · unfold gpA
   rw[if_pos e]
   refine fn_all (n:=n+15) Try.func36 rfl rfl rfl (u36x n w ls ld zs zd (szs zd ld) (kdT w ls ld zs zd) H sure (chkB w ls ld zs zd)) (il_ok _ (n+14) 1 (fun k=>ct58 n w ls ld zs zd k _ _ (by rw[if_pos e]) rfl)) (noBT_ok _ _) (noRT_ok _ _) ?_
   refine Tr.all_reqP rfl (Tr.all_ite (fun _=>Tr.all_ok ⟨rfl,rfl⟩) (fun h=>?_))
   simp[notB_eq,eqI_dec] at h
   exact absurd h e
end
end Go.Eng
end
section
namespace Go.Eng
open Go.Proofs
set_option linter.unusedVariables false
set_option linter.unusedSimpArgs false
set_option maxRecDepth 100000
theorem u43 (n:Nat) (w:Int) (ls ld:Nat) (zs zd:Nat→Int) (H:Heap) (a b:Int):bodyT Try.prog (cd (n+2)) 100000 43 Try.f43 (Kt.kt 43) (il noCt n 2) noBT noRT [(bathA w ls zs ld zd,none),(.agg (.I .u8 [a,b]),none)] H =
 Tr.req (inI (Int.ofNat 0) 2) (Tr.req (notB (eqI (addI .i64 (Int.ofNat ls) (Int.ofNat 2)) (Int.ofNat 0))) (Tr.req (inI (Int.ofNat 1) 2) (Tr.req (notB (eqI (addI .i64 (Int.ofNat ls) (Int.ofNat 2)) (Int.ofNat 0))) (Tr.ite (eqI (subI .i64 (remI IntKind.i64 (wrI IntKind.i64 a) (addI .i64 (Int.ofNat ls) (Int.ofNat 2))) (Int.ofNat 2)) (subI .i64 (remI IntKind.i64 (wrI IntKind.i64 b) (addI .i64 (Int.ofNat ls) (Int.ofNat 2))) (Int.ofNat 2))) (Tr.req (notB (eqI (addI .i64 (Int.ofNat ls) (Int.ofNat 2)) (Int.ofNat 0))) (Tr.req (notB (eqI (addI .i64 (Int.ofNat ls) (Int.ofNat 2)) (Int.ofNat 0))) (Tr.ok ((AV.tup [AV.int .i64 (subI .i64 (remI IntKind.i64 (wrI IntKind.i64 a) (addI .i64 (Int.ofNat ls) (Int.ofNat 2))) (Int.ofNat 2)),AV.int .i64 (subI .i64 (remI IntKind.i64 (wrI IntKind.i64 (wrI IntKind.u8 (remI IntKind.i64 (addI .i64 (addI .i64 (subI .i64 (remI IntKind.i64 (wrI IntKind.i64 a) (addI .i64 (Int.ofNat ls) (Int.ofNat 2))) (Int.ofNat 2)) (Int.ofNat 2)) (Int.ofNat 1)) (addI .i64 (Int.ofNat ls) (Int.ofNat 2))))) (addI .i64 (Int.ofNat ls) (Int.ofNat 2))) (Int.ofNat 2))],none),H)))) (Tr.ok ((AV.tup [AV.int .i64 (subI .i64 (remI IntKind.i64 (wrI IntKind.i64 a) (addI .i64 (Int.ofNat ls) (Int.ofNat 2))) (Int.ofNat 2)),AV.int .i64 (subI .i64 (remI IntKind.i64 (wrI IntKind.i64 b) (addI .i64 (Int.ofNat ls) (Int.ofNat 2))) (Int.ofNat 2))],none),H)))))):=by kernel_rfl
def plN (ls:Nat) (a:Int):Int:=a % ((ls:Int)+2)-2
def twoP (ls:Nat) (a b:Int):Int:=if plN ls a=plN ls b then plN ls ((plN ls a+3) % ((ls:Int)+2)) else plN ls b
theorem two_ok {ls:Nat} {a b:Int} (hl:ls≤15) (ha:0≤a) (hb:0≤b):(-2≤plN ls a∧plN ls a<ls)∧(-2≤twoP ls a b∧twoP ls a b<ls)∧plN ls a≠twoP ls a b:=by
 have r:∀ x:Int,-2≤plN ls x∧plN ls x<ls:=fun x=>by
  unfold plN
  have h1:=Int.emod_nonneg x (show ((ls:Int)+2)≠0 by omega)
  have h2:=Int.emod_lt_of_pos x (show 0<((ls:Int)+2) by omega)
  omega
 refine ⟨r a,?_,?_⟩
 · unfold twoP;split
   · exact r _
   · exact r _
 · unfold twoP
   split
   · intro h
     have h0:=r a
     generalize plN ls a=p at h h0
     by_cases e:p+3<(ls:Int)+2
     · have e1:(p+3) % ((ls:Int)+2)=p+3:=Int.emod_eq_of_lt (by omega) e
       unfold plN at h
       rw[e1,e1] at h;omega
     · have e1:(p+3) % ((ls:Int)+2)=0:=by
        rw[show p+3=(ls:Int)+2 by omega,Int.emod_self]
       unfold plN at h
       rw[e1,Int.zero_emod] at h;omega
   · assumption
theorem rem_mod {x:Int} {m:Int} (h0:0≤x):remI .i64 x m=x % m:=by rw[remI_eq,Int.tmod_eq_emod_of_nonneg h0]
theorem wr_64' {x:Int} (h0:-9223372036854775808≤x) (h1:x≤9223372036854775807):wrI .i64 x=x:=by rw[wrI_eq,wr_64 h0 h1]
theorem wr_8 {x:Int} (h0:0≤x) (h1:x≤255):wrI .u8 x=x:=by
 rw[wrI_eq]
 simp only[IntKind.wrap,IntKind.signed,IntKind.bits]
 simp
 omega
theorem c43 (n:Nat) (w:Int) (ls ld:Nat) (zs zd:Nat→Int) (H:Heap) (a b:Int) (hl:ls≤15) (ha:0≤a∧a≤255) (hb:0≤b∧b≤255):cd (n+3) (.fn 43) [bathA w ls zs ld zd,.agg (.I .u8 [a,b])] H=some (.tup [.int .i64 (plN ls a),.int .i64 (twoP ls a b)],H):=by
 refine fn_all (n:=n+2) Try.func43 rfl rfl rfl (u43 n w ls ld zs zd H a b) (il_no n 2) (noBT_ok _ _) (noRT_ok _ _) ?_
 obtain ⟨k1,-,-⟩:=two_ok (a:=a) (b:=b) hl ha.1 hb.1
 have m0:∀ x:Int,0≤x % ((ls:Int)+2)∧x % ((ls:Int)+2)<(ls:Int)+2:=fun x=>⟨Int.emod_nonneg x (by omega),Int.emod_lt_of_pos x (by omega)⟩
 have eL:addI .i64 (Int.ofNat ls) (Int.ofNat 2)=(ls:Int)+2:=by simp (disch:=omega) only[nV,nW]
 have eP:∀ x:Int,0≤x→x≤255→subI .i64 (remI .i64 (wrI .i64 x) ((ls:Int)+2)) (Int.ofNat 2)=plN ls x:=fun x h0 h1=>by
  rw[wr_64' (by omega) (by omega),rem_mod h0,subI_eq]
  have:=m0 x
  unfold plN
  exact wr_64 (by rw[show Int.ofNat 2=2 from rfl];omega) (by rw[show Int.ofNat 2=2 from rfl];omega)
 have eQ:wrI .u8 (remI .i64 (addI .i64 (addI .i64 (plN ls a) (Int.ofNat 2)) (Int.ofNat 1)) ((ls:Int)+2))=(plN ls a+3) % ((ls:Int)+2):=by
  have e:addI .i64 (addI .i64 (plN ls a) (Int.ofNat 2)) (Int.ofNat 1)=plN ls a+3:=by
   simp (disch:=omega) only[nV,nW]
   omega
  have:=m0 (plN ls a+3)
  rw[e,rem_mod (by omega),wr_8 this.1 (by omega)]
 have:=m0 (plN ls a+3)
 rw[eL,eP a ha.1 ha.2,eP b hb.1 hb.2,eQ,eP _ this.1 (by omega)]
 unfold twoP
 repeat' first | (refine Tr.all_ite (fun hc=>?_) (fun hc=>?_)<;>(try simp (disch:=omega) only[nV,nW] at hc)<;>try omega) | (refine Tr.all_req ?_ ?_;· (try simp (disch:=omega) only[nV,nW]);try omega) | (refine Tr.all_reqP ?_ ?_;· first | exact trivial | rfl | exact ⟨rfl,rfl⟩ | exact ⟨rfl,rfl,rfl⟩ | (simp (disch:=omega) only[nV,nW];done) | ((try simp (disch:=omega) only[nV,nW]);omega)) | fail
 · rw[if_pos hc];exact Tr.all_ok ⟨rfl,rfl⟩
 · rw[if_neg hc];exact Tr.all_ok ⟨rfl,rfl⟩
theorem pl_ok {w:Int} {ls ld:Nat} {zs zd:Nat→Int} {p q:Int} (h:chkB w ls ld zs zd=0) (hp:-2≤p∧p<ls) (hq:-2≤q∧q<ls) (hpq:p≠q):plE w ls ld zs zd p q=0∧touK w ls ld zs zd p q=kndR w ld zs zd p q:=by
 have e:plE w ls ld zs zd p q=0:=by
  unfold plE
  rw[if_neg (fun x=>x h),if_pos ⟨by simp[isPl];omega,by simp[isPl];omega,hpq⟩]
 refine ⟨e,?_⟩
 unfold touK
 rw[if_neg (fun x=>x e)]
end Go.Eng
end
section
namespace Go.Eng
open Go.Proofs
set_option linter.unusedVariables false
set_option linter.unusedSimpArgs false
set_option maxRecDepth 100000
section
variable (n:Nat) (w:Int) (ls ld lb:Nat) (zs zd zb:Nat→Int) (H:Heap)
end
end Go.Eng
end
section
namespace Go.Eng
set_option linter.unusedVariables false
set_option linter.unusedSimpArgs false
end Go.Eng
end
section
namespace Go.Eng
open Go.Proofs
set_option linter.unusedVariables false
set_option linter.unusedSimpArgs false
set_option maxRecDepth 100000
section
variable (n:Nat) (w:Int) (ls ld lb:Nat) (zs zd zb:Nat→Int) (H:Heap) (p q:Int)
end
end Go.Eng
end
section
namespace Go.Eng
open Go.Proofs
set_option linter.unusedVariables false
set_option linter.unusedSimpArgs false
set_option maxRecDepth 100000
section
variable (n:Nat) (H:Heap)
end
end Go.Eng
end
section
namespace Go.Eng
open Go.Proofs
set_option linter.unusedVariables false
set_option linter.unusedSimpArgs false
set_option maxRecDepth 100000
section
variable (n:Nat) (w:Int) (ls ld:Nat) (zs zd:Nat→Int) (H:Heap) (p q:Int)
end
end Go.Eng
end
section
namespace Go.Eng
open Go.Proofs
set_option linter.unusedVariables false
set_option linter.unusedSimpArgs false
set_option maxRecDepth 100000
noncomputable def g42 (B U T:AV):List AV→Option (Prop×AV)
 | [b,u]=>some (b=B∧u=U,T)
 | _=>none
noncomputable def g43t (B:AV) (a b p q:Int):List AV→Option (Prop×AV)
 | [x,.agg (.I .u8 [c,d])]=>some (x=B∧c=a∧d=b,.tup [.int .i64 p,.int .i64 q])
 | _=>none
section
variable (n:Nat) (w:Int) (ls ld lt:Nat) (zs zd tr:Nat→Int) (H:Heap) (a b c d D F K:Int)
end
end Go.Eng
end
section
namespace Go.Eng
open Go.Proofs
set_option linter.unusedVariables false
set_option linter.unusedSimpArgs false
set_option maxRecDepth 100000
section
variable (n:Nat) (w:Int) (ls ld lb:Nat) (zs zd zb:Nat→Int) (H:Heap) (a b c d:Int)
end
end Go.Eng
end
section
namespace Go.Eng
open Go.Proofs
set_option linter.unusedVariables false
set_option linter.unusedSimpArgs false
set_option maxRecDepth 100000
theorem bothR_sym {a c x y x' y':Int} (ha:0≤a∧a≤1000000) (hc:0≤c∧c≤1000000) (hx:0≤x∧x≤1000) (hy:0≤y∧y≤1000) (hx':0≤x'∧x'≤1000) (hy':0≤y'∧y'≤1000):bothR a c x y x' y'=bothR c a x' y' x y:=by
 have s1:=sq_le (k:=x-x') (M:=1000) (by omega) (by omega)
 have s2:=sq_le (k:=y-y') (M:=1000) (by omega) (by omega)
 have e1:IntKind.i64.wrap (x-x')=x-x':=wr_in (by omega) (by omega)
 have e2:IntKind.i64.wrap (y-y')=y-y':=wr_in (by omega) (by omega)
 have e3:IntKind.i64.wrap (x'-x)=-(x-x'):=by rw[wr_in (by omega) (by omega)];omega
 have e4:IntKind.i64.wrap (y'-y)=-(y-y'):=by rw[wr_in (by omega) (by omega)];omega
 have pr:∀ u v:Int,0≤u→u≤1000000→0≤v→v≤1000000→0≤4*u*v∧4*u*v≤4000000000000:=fun u v h1 h2 h3 h4=>by
  constructor
  · exact Int.mul_nonneg (by omega) h3
  · exact Int.le_trans (Int.mul_le_mul (show 4*u≤4000000 by omega) h4 h3 (by omega)) (by omega)
 have q1:=pr a c ha.1 ha.2 hc.1 hc.2
 have q2:4*c*a=4*a*c:=by rw[Int.mul_assoc,Int.mul_comm c a,← Int.mul_assoc]
 unfold bothR
 simp only[e1,e2,e3,e4,Int.neg_mul_neg]
 generalize (x-x')*(x-x')=X at s1 ⊢
 generalize (y-y')*(y-y')=Y at s2 ⊢
 rw[wr_in (k:=X) (by omega) (by omega),wr_in (k:=Y) (by omega) (by omega),wr_in (k:=X+Y) (by omega) (by omega),wr_in (k:=X+Y-a) (by omega) (by omega),wr_in (k:=X+Y-c) (by omega) (by omega),wr_in (k:=X+Y-a-c) (by omega) (by omega),show X+Y-c-a=X+Y-a-c by omega,wr_in (k:=X+Y-a-c) (by omega) (by omega),Int.add_comm c a,wr_in (k:=4*a) (by omega) (by omega),wr_in (k:=4*c) (by omega) (by omega),q2]
theorem touch_sym {w:Int} {ls:Nat} {zs:Nat→Int} {so:Int→Int} {p q:Int} (hB:TouchB ls zs so p q) (hp:0≤p) (hq:0≤q):touchT w zs so p q=touchT w zs so q p:=by
 obtain ⟨h1,h2,h3,h4⟩:=hB
 have g1:=h3 p.toNat (by omega)
 have g2:=h3 q.toNat (by omega)
 unfold spotB at g1 g2
 unfold touchT
 simp only[show ¬ p<0 by omega,show ¬ q<0 by omega,and_self,if_false,show ¬ q=-2 by omega,show ¬ p=-2 by omega,if_pos hq,if_pos hp]
 rw[both_eq (h4 p) (h4 q) (by omega) (by omega) (by omega) (by omega),both_eq (h4 q) (h4 p) (by omega) (by omega) (by omega) (by omega),bothR_sym (h4 p) (h4 q) (by omega) (by omega) (by omega) (by omega)]
 by_cases z1:so p=0<;>by_cases z2:so q=0<;>simp[z1,z2]
end Go.Eng
end
