/- Drop: group: its loop, and what it hands to the sort. -/
import Derived.Test.YtjmjkhpfipglcaaV8Kfx2
section
namespace Go.Eng
open Go.Proofs
set_option linter.unusedVariables false
set_option linter.unusedSimpArgs false
set_option maxRecDepth 100000
theorem t88e4 (n:Nat) (tk:Nat) (w:Int) (ls ld:Nat) (zs zd sz kd mk:Nat→Int) (H:Heap) (p i:Int) (sure:Bool):execT (cxD (n+5) 88 56) (il noCt (n+4) 1) noBT (rgE noRT (fun _=>true) [] [] .bad) (part Try.f88 [1,1,1,1,1,0,1,0,0]) (hints (fr88 tk w ls ld zs zd sz kd sure i)) (lvGr p mk (.slc 0 2 0 0 1 1 (some 1)) []::H) =
 (fun (Z0:Row)=>((fun (Z1:Lvl)=>Tr.ite (ltI i (Int.ofNat 1)) (Tr.req (inI i 1) (Tr.req (eqN 0 0) (Tr.req (ltN (idO 0 i 1) (lenL [p])) (Tr.reqP ([(0,AV.ptrT (some (Nat.succ tk)) Z0 0),(2,AV.bool sure),(4,AV.ptr 0 0 0 0),(7,AV.ptr 0 1 0 0),(8,AV.ptr 0 3 0 0),(9,AV.int .i64 i),(30,AV.fn (Fn.func 110) [] [AV.ptrT (some 0) (Row.G [AV.ptrT (some (Nat.succ tk)) Z0 0]) 0,AV.ptrT none (Row.I .i64 [lstO [p] (idO 0 i 1)]) 0,AV.ptrT (some 0) (Row.G [AV.bool sure]) 0])]=[]∧Z1::H=[]) Tr.bad)))) (Tr.ok (Ex.exit 0,[(0,AV.ptrT (some (Nat.succ tk)) Z0 0,none),(2,AV.bool sure,none),(4,AV.ptr 0 0 0 0,none),(7,AV.ptr 0 1 0 0,none),(8,AV.ptr 0 3 0 0,none),(9,AV.int .i64 i,none),(21,AV.bool false,some 1)],Z1::H))) { lock:=false,bs:=[(0,Blk.row (Row.I .i64 [p])),(0,Blk.row (Row.M [Seg.arr .i64 mk 12])),(0,Blk.row (Row.I .i64 [p])),(0,Blk.row (Row.G [AV.slc 0 2 0 0 1 1 (some 1)]))] })) (Row.M [Seg.one (AV.int .i64 w),Seg.one (slA 2 ls zs),Seg.one (slA 3 ld zd),Seg.one (.slcT none (.M [.arr .i64 sz (mulO ls 2)]) 2 ls true),Seg.arr .i64 kd 144]):=by kernel_rfl
theorem t88e5 (n:Nat) (tk:Nat) (w:Int) (ls ld:Nat) (zs zd sz kd mk z:Nat→Int) (H:Heap) (p i:Int) (sure:Bool) (v m:Nat):execT (cxD (n+5) 88 56) (il noCt (n+4) 1) noBT (rgE noRT (fun _=>true) [] [] .bad) (part Try.f88 [1,1,1,1,1,0,1,0,0]) (hints (fr88 tk w ls ld zs zd sz kd sure i)) (lvGr p mk (.slc 0 4 v 0 1 m none) [(v,.row (.M [.arr .i64 z m]))]::H) =
 (fun (Z0:Row)=>((fun (Z1:Lvl)=>Tr.ite (ltI i (Int.ofNat m)) (Tr.req (inI i m) (Tr.req (eqN v v) (Tr.req (ltN (idO 0 i 1) m) (Tr.reqP ([(0,AV.ptrT (some (Nat.succ tk)) Z0 0),(2,AV.bool sure),(4,AV.ptr 0 0 0 0),(7,AV.ptr 0 1 0 0),(8,AV.ptr 0 3 0 0),(9,AV.int .i64 i),(30,AV.fn (Fn.func 110) [] [AV.ptrT (some 0) (Row.G [AV.ptrT (some (Nat.succ tk)) Z0 0]) 0,AV.ptrT none (Row.I .i64 [z (idO 0 i 1)]) 0,AV.ptrT (some 0) (Row.G [AV.bool sure]) 0])]=[]∧Z1::H=[]) Tr.bad)))) (Tr.ok (Ex.exit 0,[(0,AV.ptrT (some (Nat.succ tk)) Z0 0,none),(2,AV.bool sure,none),(4,AV.ptr 0 0 0 0,none),(7,AV.ptr 0 1 0 0,none),(8,AV.ptr 0 3 0 0,none),(9,AV.int .i64 i,none),(21,AV.bool false,some 1)],Z1::H))) { lock:=false,bs:=[(0,Blk.row (Row.I .i64 [p])),(0,Blk.row (Row.M [Seg.arr .i64 mk 12])),(0,Blk.row (Row.I .i64 [p])),(0,Blk.row (Row.G [AV.slc 0 4 v 0 1 m none])),(v,Blk.row (Row.M [Seg.arr .i64 z m]))] })) (Row.M [Seg.one (AV.int .i64 w),Seg.one (slA 2 ls zs),Seg.one (slA 3 ld zd),Seg.one (.slcT none (.M [.arr .i64 sz (mulO ls 2)]) 2 ls true),Seg.arr .i64 kd 144]):=by kernel_rfl
noncomputable def lvG0 (p:Int) (s:(Nat→Int)×List Int):Lvl:=match s.2 with
 | []=>lvGr p s.1 (.slc 0 2 0 0 1 1 (some 1)) []
 | y::r=>lvGr p s.1 (.slc 0 4 r.length 0 1 (r.length+2) none) [(r.length,.row (.M [.arr .i64 (lstO (p::y::r)) (r.length+2)]))]
theorem lst_get (L:List Int) (i:Nat) (h:i<L.length):lstO L i ∈ L:=by
 rw[lstO_fn]
 simp[List.getD_eq_getElem?_getD,h]
section
variable (n:Nat) (tk:Nat) (w:Int) (ls ld:Nat) (zs zd sz kd:Nat→Int) (H:Heap) (p:Int) (sure:Bool) (mk:Nat→Int)
theorem grS_ok (hp:-2≤p∧p<ls):∀ i,GI ls p (grS kd sure ls p mk i)
 | 0=>⟨fun q hq=>by simp[grS] at hq,by simp[grS]⟩
 | i+1=>(grS_ok hp i).fold _ _ (Nat.le_refl _)
theorem grS_cur (hp:-2≤p∧p<ls) (i:Nat) (hi:i<1+(grS kd sure ls p mk i).2.length):-2≤lstO (p::(grS kd sure ls p mk i).2) i∧lstO (p::(grS kd sure ls p mk i).2) i<ls:=by
 have:=lst_get (p::(grS kd sure ls p mk i).2) i (by simp;omega)
 rcases List.mem_cons.1 this with h | h
 · rw[h];exact hp
 · have:=(grS_ok ls kd p sure mk hp i).mem _ h
   exact ⟨this.1,this.2.1⟩
noncomputable def grN (kd:Nat→Int) (sure:Bool) (ls:Nat) (p:Int) (mk:Nat→Int):Nat:=fN (fun j=>decide (1+(grS kd sure ls p mk j).2.length≤j)) 20 0
theorem grN_ok (hp:-2≤p∧p<ls) (hls:ls≤10):grN kd sure ls p mk≤13∧(∀ j,j<grN kd sure ls p mk→j<1+(grS kd sure ls p mk j).2.length)∧1+(grS kd sure ls p mk (grN kd sure ls p mk)).2.length≤grN kd sure ls p mk:=by
 have hl:∀ j,(grS kd sure ls p mk j).2.length≤12:=fun j=>by
  have:=(grS_ok ls kd p sure mk hp j).len;omega
 obtain ⟨h1,h2,h3,h4⟩:=fN_spec (fun j=>decide (1+(grS kd sure ls p mk j).2.length≤j)) 20 0
 have h13:grN kd sure ls p mk≤13:=by
  by_cases h:grN kd sure ls p mk≤13
  · exact h
  · have:=h3 13 (by omega) (by unfold grN at h;omega)
    have:=hl 13
    simp only[decide_eq_false_iff_not] at *
    omega
 refine ⟨h13,fun j hj=>?_,?_⟩
 · have:=h3 j (by omega) hj
   simp only[decide_eq_false_iff_not] at this
   omega
 · have:=h4 (by unfold grN at h13;omega)
   unfold grN
   simpa using this
theorem r88o:rangesOf (part Try.f88 [1,1,1,1,1,0,1,0,0])=[(.tmp 30,#[31],pAs,pBd)]:=by kernel_rfl
theorem l88 (hp:-2≤p∧p<ls)         (hls:ls≤10):exec (cxD (n+5) 88 56) (.block 0 (.loop (part Try.f88 [1,1,1,1,1,0,1,0,0]))) (fr88 tk w ls ld zs zd sz kd sure 0) (lvGr p mk (.slc 0 2 0 0 1 1 (some 1)) []::H) =
 some (.normal,fr88 tk w ls ld zs zd sz kd sure ((grN kd sure ls p mk:Nat):Int)++[(21,.bool false)],lvG0 p (grS kd sure ls p mk (grN kd sure ls p mk))::H):=by
 obtain ⟨n1,n2,n3⟩:=grN_ok ls kd p sure mk hp hls
 generalize grN kd sure ls p mk=N at *
 have:=forX (n:=n+5) (f:=88) (nt:=56) (c:=part Try.f88 [1,1,1,1,1,0,1,0,0]) 0 (fun i=>fr88 tk w ls ld zs zd sz kd sure (i:Int)) (fun i=>lvG0 p (grS kd sure ls p mk i)::H) N (fr88 tk w ls ld zs zd sz kd sure ((N:Nat):Int)++[(21,.bool false)],lvG0 p (grS kd sure ls p mk N)::H) (by omega) (fun i hi=>?_) ?_
 · exact this
 · have hlt:=n2 i hi
   have hg:=grS_ok ls kd p sure mk hp i
   have hcr:=grS_cur ls kd p sure mk hp i hlt
   have ei:addI .i64 (i:Int) (Int.ofNat 1)=((i+1:Nat):Int):=by rw[addI_eq,show Int.ofNat 1=1 from rfl];exact wr_64 (by omega) (by omega)
   have ed:idO 0 (i:Int) 1=i:=by rw[idO_eq];omega
   have eS:grS kd sure ls p mk (i+1)=gFold (fun j=>hlK kd sure (lstO (p::(grS kd sure ls p mk i).2) i) ((j:Int)-2)) p (grS kd sure ls p mk i) (ls+2):=rfl
   have h0:hNext (lvG0 p (grS kd sure ls p mk 0)::H)=4:=rfl
   have hlen:=hg.len
   rw[eS,h0]
   generalize grS kd sure ls p mk i=s at *
   obtain ⟨mk1,r⟩:=s
   cases r with
   | nil =>
     have hi0:i=0:=by       have:i<1:=by simpa using hlt
                            omega
     subst hi0
     have hr:=rg88_4 n tk w ls ld zs zd sz kd H p (lstO [p] 0) ((0:Nat):Int) sure mk1 hg hls hcr
     generalize hs':gFold (fun j=>hlK kd sure (lstO [p] 0) ((j:Int)-2)) p (mk1,[]) (ls+2)=s' at *
     refine ex_all (t88r4 n tk w ls ld zs zd sz kd mk1 H p (lstO [p] 0) ((0:Nat):Int) sure (lvG4 p .dead s')) (il_no (n+4) 1) (noBT_ok _ _) (rgE_ok (noRT_ok _ _) (fun f ps a b _ hm x hx=>?_)) ?_
     · rw[r88o] at hm
       simp only[List.mem_cons,Prod.mk.injEq,List.not_mem_nil,or_false] at hm
       obtain ⟨rfl,rfl,rfl,rfl⟩:=hm
       rw[← Tr.ok_some hx]
       simp only[Res.st,hints_eq]
       exact hr
     · rw[ed,ei]
       have hl1:lenL [p]=1:=by rw[lenL_eq];rfl
       rw[hl1]
       repeat' first | (refine Tr.all_ite (fun hc=>?_) (fun hc=>?_)<;>(try simp (disch:=omega) only[nV,nW] at hc)<;>try omega) | (refine Tr.all_req ?_ ?_;· (try simp (disch:=omega) only[nV,nW]);try omega) | (refine Tr.all_reqP ?_ ?_;· first | exact trivial | rfl | exact ⟨rfl,rfl⟩ | exact ⟨rfl,rfl,rfl⟩ | (simp (disch:=omega) only[nV,nW];done) | ((try simp (disch:=omega) only[nV,nW]);omega)) | fail
       refine Tr.all_ok ⟨rfl,?_⟩
       obtain ⟨mk2,r2⟩:=s'
       cases r2<;>rfl
   | cons y r =>
     have hr:=rg88_5 n tk w ls ld zs zd sz kd H p (lstO (p::y::r) i) (i:Int) sure mk1 y r hg hls hcr
     have hi2:i<r.length+2:=by         have:i<1+(r.length+1):=by simpa using hlt
                                       omega
     have hne:=gFold_ne (hl:=fun j=>hlK kd sure (lstO (p::y::r) i) ((j:Int)-2)) (p:=p) (s:=(mk1,y::r)) (by simp) (ls+2)
     generalize hs':gFold (fun j=>hlK kd sure (lstO (p::y::r) i) ((j:Int)-2)) p (mk1,y::r) (ls+2)=s' at *
     have hr2:r.length≤12:=by       have:r.length+1≤ls+2:=by simpa using hlen
                                    omega
     refine ex_all (t88r5 n tk w ls ld zs zd sz kd mk1 (lstO (p::y::r)) H p (lstO (p::y::r) i) (i:Int) sure r.length (r.length+2) (lvG5 p .dead s')) (il_no (n+4) 1) (noBT_ok _ _) (rgE_ok (noRT_ok _ _) (fun f ps a b _ hm x hx=>?_)) ?_
     · rw[r88o] at hm
       simp only[List.mem_cons,Prod.mk.injEq,List.not_mem_nil,or_false] at hm
       obtain ⟨rfl,rfl,rfl,rfl⟩:=hm
       rw[← Tr.ok_some hx]
       simp only[Res.st,hints_eq]
       exact hr
     · rw[ed,ei]
       repeat' first | (refine Tr.all_ite (fun hc=>?_) (fun hc=>?_)<;>(try simp (disch:=omega) only[nV,nW] at hc)<;>try omega) | (refine Tr.all_req ?_ ?_;· (try simp (disch:=omega) only[nV,nW]);try omega) | (refine Tr.all_reqP ?_ ?_;· first | exact trivial | rfl | exact ⟨rfl,rfl⟩ | exact ⟨rfl,rfl,rfl⟩ | (simp (disch:=omega) only[nV,nW];done) | ((try simp (disch:=omega) only[nV,nW]);omega)) | fail
       refine Tr.all_ok ⟨rfl,?_⟩
       obtain ⟨mk2,r2⟩:=s'
       cases r2 with
       | nil=>exact absurd rfl hne
       | cons y2 r2=>rfl
 · have ei:idO 0 (N:Int) 1=N       := by rw[idO_eq];omega
   generalize grS kd sure ls p mk N=s at *
   obtain ⟨mk1,r⟩:=s
   cases r with
   | nil =>
     have:1≤N:=by simpa using n3
     obtain ⟨x,h1,rfl⟩:=ex_all (Q:=fun x=>x=(.exit 0,fr88 tk w ls ld zs zd sz kd sure ((N:Nat):Int)++[(21,.bool false)],lvG0 p (mk1,[])::H)) (t88e4 n tk w ls ld zs zd sz kd mk1 H p (N:Int) sure) (il_no (n+4) 1) (noBT_ok _ _) (rgE_ok (noRT_ok _ _) (fun f ps a b _ hm x hx=>(Tr.bad_some hx).elim)) (by
      repeat' first | (refine Tr.all_ite (fun hc=>?_) (fun hc=>?_)<;>(try simp (disch:=omega) only[nV,nW] at hc)<;>try omega) | (refine Tr.all_req ?_ ?_;· (try simp (disch:=omega) only[nV,nW]);try omega) | (refine Tr.all_reqP ?_ ?_;· first | exact trivial | rfl | exact ⟨rfl,rfl⟩ | exact ⟨rfl,rfl,rfl⟩ | (simp (disch:=omega) only[nV,nW];done) | ((try simp (disch:=omega) only[nV,nW]);omega)) | fail
      exact Tr.all_ok rfl)
     exact h1
   | cons y r =>
     have:r.length+2≤N:=by         have:1+(r.length+1)≤N:=by simpa using n3
                                   omega
     obtain ⟨x,h1,rfl⟩:=ex_all (Q:=fun x=>x=(.exit 0,fr88 tk w ls ld zs zd sz kd sure ((N:Nat):Int)++[(21,.bool false)],lvG0 p (mk1,y::r)::H)) (t88e5 n tk w ls ld zs zd sz kd mk1 (lstO (p::y::r)) H p (N:Int) sure r.length (r.length+2)) (il_no (n+4) 1) (noBT_ok _ _) (rgE_ok (noRT_ok _ _) (fun f ps a b _ hm x hx=>(Tr.bad_some hx).elim)) (by
      repeat' first | (refine Tr.all_ite (fun hc=>?_) (fun hc=>?_)<;>(try simp (disch:=omega) only[nV,nW] at hc)<;>try omega) | (refine Tr.all_req ?_ ?_;· (try simp (disch:=omega) only[nV,nW]);try omega) | (refine Tr.all_reqP ?_ ?_;· first | exact trivial | rfl | exact ⟨rfl,rfl⟩ | exact ⟨rfl,rfl,rfl⟩ | (simp (disch:=omega) only[nV,nW];done) | ((try simp (disch:=omega) only[nV,nW]);omega)) | fail
      exact Tr.all_ok rfl)
     exact h1
end
end Go.Eng
end
section
namespace Go.Eng
open Go.Proofs
set_option linter.unusedVariables false
set_option linter.unusedSimpArgs false
set_option maxRecDepth 100000
def g114 (x l:Int):List AV→Option (Prop×AV)
 | [.int .u64 y]=>some (y=x,.int .i64 l)
 | _=>none
noncomputable def lvSo (p:Int) (mk z:Nat→Int) (s:AV) (v m:Nat):Lvl:=lvGr p mk s [(v,.row (.M [.arr .i64 z m]))]
noncomputable def fr115 (v m:Nat) (i:Int):Frm:=[(0,.slc 3 4 v 0 1 m none),(1,.int .i64 0),(2,.int .i64 (Int.ofNat m)),(6,.int .i64 i)]
noncomputable def fr115i (v m:Nat) (i j:Int):Frm:=[(0,.slc 3 4 v 0 1 m none),(1,.int .i64 0),(2,.int .i64 (Int.ofNat m)),(6,.int .i64 i),(7,.int .i64 j)]
theorem u108 (n:Nat) (H:Heap) (p:Int) (mk z z2:Nat→Int) (s:AV) (v m:Nat) (lim:Int):bodyT Try.prog (cd (n+4)) 100000 108 Try.f108 (Kt.kt 108) (il (ctG (ctE noCt 113 [.slc 1 4 v 0 1 m none,.int .i64 0,.int .i64 (Int.ofNat m),.int .i64 lim] (lv0::lvSo p mk z s v m::H) (.ok (.tup [],lv0::lvSo p mk z2 s v m::H))) 114 (g114 (Int.ofNat m) lim)) (n+4) 0) noBT noRT [(.slc 0 4 v 0 1 m none,none)] (lvSo p mk z s v m::H) =
 (fun (Z0:Lvl)=>((fun (Z1:List AV)=>Tr.reqP (wrI IntKind.u64 (Int.ofNat m)=Int.ofNat m) (Tr.reqP (Z1=Z1∧lv0::Z0::H=lv0::Z0::H) (Tr.ok ((AV.tup [],none),{ lock:=false,bs:=[(0,Blk.row (Row.I .i64 [p])),(0,Blk.row (Row.M [Seg.arr .i64 mk 12])),(0,Blk.row (Row.I .i64 [p])),(0,Blk.row (Row.G [s])),(v,Blk.row (Row.M [Seg.arr .i64 z2 m]))] } :: H)))) [AV.slc 1 4 v 0 1 m none,AV.int .i64 (Int.ofNat 0),AV.int .i64 (Int.ofNat m),AV.int .i64 lim])) { lock:=false,bs:=[(0,Blk.row (Row.I .i64 [p])),(0,Blk.row (Row.M [Seg.arr .i64 mk 12])),(0,Blk.row (Row.I .i64 [p])),(0,Blk.row (Row.G [s])),(v,Blk.row (Row.M [Seg.arr .i64 z m]))] }:=by kernel_rfl
theorem u113 (n:Nat) (H:Heap) (p:Int) (mk z z2:Nat→Int) (s:AV) (v m:Nat) (lim:Int):bodyT Try.prog (cd (n+3)) 100000 113 Try.f113 (Kt.kt 113) (il (ctE noCt 115 [.slc 2 4 v 0 1 m none,.int .i64 0,.int .i64 (Int.ofNat m)] (lv0::lv0::lvSo p mk z s v m::H) (.ok (.tup [],lv0::lv0::lvSo p mk z2 s v m::H))) (n+3) 0) noBT noRT [(.slc 1 4 v 0 1 m none,none),(.int .i64 0,none),(.int .i64 (Int.ofNat m),none),(.int .i64 lim,none)] (lv0::lvSo p mk z s v m::H) =
 (fun (Z0:Lvl)=>Tr.ite (leI (subI .i64 (Int.ofNat m) (Int.ofNat 0)) (Int.ofNat 12)) (Tr.reqP ([AV.slc 2 4 v 0 1 m none,AV.int .i64 (Int.ofNat 0),AV.int .i64 (Int.ofNat m)]=[AV.slc 2 4 v 0 1 m none,AV.int .i64 (Int.ofNat 0),AV.int .i64 (Int.ofNat m)]∧lv0::lv0::Z0::H=lv0::lv0::Z0::H) (Tr.ok ((AV.tup [],none),lv0::{ lock:=false,bs:=[(0,Blk.row (Row.I .i64 [p])),(0,Blk.row (Row.M [Seg.arr .i64 mk 12])),(0,Blk.row (Row.I .i64 [p])),(0,Blk.row (Row.G [s])),(v,Blk.row (Row.M [Seg.arr .i64 z2 m]))] } :: H))) (Tr.ite (eqI lim (Int.ofNat 0)) Tr.bad Tr.bad)) { lock:=false,bs:=[(0,Blk.row (Row.I .i64 [p])),(0,Blk.row (Row.M [Seg.arr .i64 mk 12])),(0,Blk.row (Row.I .i64 [p])),(0,Blk.row (Row.G [s])),(v,Blk.row (Row.M [Seg.arr .i64 z m]))] }:=by kernel_rfl
theorem u115 (n:Nat) (H:Heap) (p:Int) (mk z z2:Nat→Int) (s:AV) (v m:Nat) (i2:Int):bodyT Try.prog (cd (n+2)) 100000 115 Try.f115 (Kt.kt 115) (il noCt n 2) (blkE noBT 0 (fr115 v m (addI .i64 0 1)) (lv0::lv0::lv0::lvSo p mk z s v m::H) (.ok (.normal,hints (fr115 v m i2++[(12,.bool false)]),lv0::lv0::lv0::lvSo p mk z2 s v m::H))) noRT [(.slc 2 4 v 0 1 m none,none),(.int .i64 0,none),(.int .i64 (Int.ofNat m),none)] (lv0::lv0::lvSo p mk z s v m::H) =
 (fun (Z0:Lvl)=>((fun (Z1:Frm)=>Tr.reqP (Z1=Z1∧lv0::lv0::lv0::Z0::H=lv0::lv0::lv0::Z0::H) (Tr.ok ((AV.tup [],none),lv0::lv0::{ lock:=false,bs:=[(0,Blk.row (Row.I .i64 [p])),(0,Blk.row (Row.M [Seg.arr .i64 mk 12])),(0,Blk.row (Row.I .i64 [p])),(0,Blk.row (Row.G [s])),(v,Blk.row (Row.M [Seg.arr .i64 z2 m]))] } :: H))) [(0,AV.slc 3 4 v 0 1 m none),(1,AV.int .i64 (Int.ofNat 0)),(2,AV.int .i64 (Int.ofNat m)),(6,AV.int .i64 (addI .i64 (Int.ofNat 0) (Int.ofNat 1)))])) { lock:=false,bs:=[(0,Blk.row (Row.I .i64 [p])),(0,Blk.row (Row.M [Seg.arr .i64 mk 12])),(0,Blk.row (Row.I .i64 [p])),(0,Blk.row (Row.G [s])),(v,Blk.row (Row.M [Seg.arr .i64 z m]))] }:=by kernel_rfl
theorem t115o (n:Nat) (H:Heap) (p:Int) (mk z z2:Nat→Int) (s:AV) (v m:Nat) (i j2:Int):execT (cxD (n+2) 115 49) (il noCt n 2) (blkE noBT 2 (fr115i v m i i) (lv0::lv0::lv0::lvSo p mk z s v m::H) (.ok (.normal,hints (fr115i v m i j2++[(30,.bool false)]),lv0::lv0::lv0::lvSo p mk z2 s v m::H))) noRT (part Try.f115 [1,0,0]) (hints (fr115 v m i)) (lv0::lv0::lv0::lvSo p mk z s v m::H) =
 (fun (Z0:Lvl)=>((fun (Z1:Frm)=>Tr.ite (ltI i (Int.ofNat m)) (Tr.reqP (Z1=Z1∧lv0::lv0::lv0::Z0::H=lv0::lv0::lv0::Z0::H) (Tr.ok (Ex.normal,[(0,AV.slc 3 4 v 0 1 m none,none),(1,AV.int .i64 (Int.ofNat 0),none),(2,AV.int .i64 (Int.ofNat m),none),(6,AV.int .i64 (addI .i64 i (Int.ofNat 1)),none)],lv0::lv0::lv0::{ lock:=false,bs:=[(0,Blk.row (Row.I .i64 [p])),(0,Blk.row (Row.M [Seg.arr .i64 mk 12])),(0,Blk.row (Row.I .i64 [p])),(0,Blk.row (Row.G [s])),(v,Blk.row (Row.M [Seg.arr .i64 z2 m]))] } :: H))) (Tr.ok (Ex.exit 0,[(0,AV.slc 3 4 v 0 1 m none,none),(1,AV.int .i64 (Int.ofNat 0),none),(2,AV.int .i64 (Int.ofNat m),none),(6,AV.int .i64 i,none),(12,AV.bool false,some 1)],lv0::lv0::lv0::Z0::H))) [(0,AV.slc 3 4 v 0 1 m none),(1,AV.int .i64 (Int.ofNat 0)),(2,AV.int .i64 (Int.ofNat m)),(6,AV.int .i64 i),(7,AV.int .i64 i)])) { lock:=false,bs:=[(0,Blk.row (Row.I .i64 [p])),(0,Blk.row (Row.M [Seg.arr .i64 mk 12])),(0,Blk.row (Row.I .i64 [p])),(0,Blk.row (Row.G [s])),(v,Blk.row (Row.M [Seg.arr .i64 z m]))] }:=by kernel_rfl
theorem t115e (n:Nat) (H:Heap) (p:Int) (mk z:Nat→Int) (s:AV) (v m:Nat) (i:Int):execT (cxD (n+2) 115 49) (il noCt n 2) (stopB noBT 2) noRT (part Try.f115 [1,0,0]) (hints (fr115 v m i)) (lv0::lv0::lv0::lvSo p mk z s v m::H) =
 Tr.ite (ltI i (Int.ofNat m)) Tr.bad (Tr.ok (Ex.exit 0,[(0,AV.slc 3 4 v 0 1 m none,none),(1,AV.int .i64 (Int.ofNat 0),none),(2,AV.int .i64 (Int.ofNat m),none),(6,AV.int .i64 i,none),(12,AV.bool false,some 1)],lv0::lv0::lv0::{ lock:=false,bs:=[(0,Blk.row (Row.I .i64 [p])),(0,Blk.row (Row.M [Seg.arr .i64 mk 12])),(0,Blk.row (Row.I .i64 [p])),(0,Blk.row (Row.G [s])),(v,Blk.row (Row.M [Seg.arr .i64 z m]))] } :: H)):=by kernel_rfl
theorem t115i (n:Nat) (H:Heap) (p:Int) (mk z:Nat→Int) (s:AV) (v m:Nat) (i j:Int):execT (cxD (n+2) 115 49) (il noCt n 2) noBT noRT (part Try.f115 [1,0,0,1,0,0,1,0,0]) (hints (fr115i v m i j)) (lv0::lv0::lv0::lvSo p mk z s v m::H) =
 (fun (Z0:Lvl)=>((fun (Z1:Lvl)=>((fun (Z2:HFrm)=>((fun (Z3:HFrm)=>Tr.ite (ltI (Int.ofNat 0) j) (Tr.req (inI j m) (Tr.req (eqN v v) (Tr.req (ltN (idO 0 j 1) m) (Tr.req (inI (subI .i64 j (Int.ofNat 1)) m) (Tr.req (eqN v v) (Tr.req (ltN (idO 0 (subI .i64 j (Int.ofNat 1)) 1) m) (Tr.ite (notB (eqI (z (idO 0 j 1)) (z (idO 0 j 1)))) (Tr.ite (notB (notB (eqI (z (idO 0 (subI .i64 j (Int.ofNat 1)) 1)) (z (idO 0 (subI .i64 j (Int.ofNat 1)) 1))))) (Tr.req (inI (subI .i64 j (Int.ofNat 1)) m) (Tr.req (eqN v v) (Tr.req (ltN (idO 0 (subI .i64 j (Int.ofNat 1)) 1) m) (Tr.req (inI j m) (Tr.req (eqN v v) (Tr.req (ltN (idO 0 j 1) m) (Tr.req (inI j m) (Tr.req (eqN v v) (Tr.req (ltN (idO 0 j 1) m) (Tr.req (andB (leN v v) (leN v (Nat.succ v))) (Tr.req (inI (subI .i64 j (Int.ofNat 1)) m) (Tr.req (eqN v v) (Tr.req (ltN (idO 0 (subI .i64 j (Int.ofNat 1)) 1) m) (Tr.req (andB (leN v v) (leN v (Nat.succ v))) (Tr.ok (Ex.normal,Z3,lv0::lv0::lv0::Z0::H)))))))))))))))) (Tr.ite (ltI (z (idO 0 j 1)) (z (idO 0 (subI .i64 j (Int.ofNat 1)) 1))) (Tr.req (inI (subI .i64 j (Int.ofNat 1)) m) (Tr.req (eqN v v) (Tr.req (ltN (idO 0 (subI .i64 j (Int.ofNat 1)) 1) m) (Tr.req (inI j m) (Tr.req (eqN v v) (Tr.req (ltN (idO 0 j 1) m) (Tr.req (inI j m) (Tr.req (eqN v v) (Tr.req (ltN (idO 0 j 1) m) (Tr.req (andB (leN v v) (leN v (Nat.succ v))) (Tr.req (inI (subI .i64 j (Int.ofNat 1)) m) (Tr.req (eqN v v) (Tr.req (ltN (idO 0 (subI .i64 j (Int.ofNat 1)) 1) m) (Tr.req (andB (leN v v) (leN v (Nat.succ v))) (Tr.ok (Ex.normal,Z3,lv0::lv0::lv0::Z0::H)))))))))))))))) (Tr.ok (Ex.exit 2,Z2,lv0::lv0::lv0::Z1::H)))) (Tr.ite (ltI (z (idO 0 j 1)) (z (idO 0 (subI .i64 j (Int.ofNat 1)) 1))) (Tr.req (inI (subI .i64 j (Int.ofNat 1)) m) (Tr.req (eqN v v) (Tr.req (ltN (idO 0 (subI .i64 j (Int.ofNat 1)) 1) m) (Tr.req (inI j m) (Tr.req (eqN v v) (Tr.req (ltN (idO 0 j 1) m) (Tr.req (inI j m) (Tr.req (eqN v v) (Tr.req (ltN (idO 0 j 1) m) (Tr.req (andB (leN v v) (leN v (Nat.succ v))) (Tr.req (inI (subI .i64 j (Int.ofNat 1)) m) (Tr.req (eqN v v) (Tr.req (ltN (idO 0 (subI .i64 j (Int.ofNat 1)) 1) m) (Tr.req (andB (leN v v) (leN v (Nat.succ v))) (Tr.ok (Ex.normal,Z3,lv0::lv0::lv0::Z0::H)))))))))))))))) (Tr.ok (Ex.exit 2,Z2,lv0::lv0::lv0::Z1::H)))))))))) (Tr.ok (Ex.exit 2,Z2,lv0::lv0::lv0::Z1::H))) [(0,AV.slc 3 4 v 0 1 m none,none),(1,AV.int .i64 (Int.ofNat 0),none),(2,AV.int .i64 (Int.ofNat m),none),(6,AV.int .i64 i,none),(7,AV.int .i64 (subI .i64 j (Int.ofNat 1)),none)])) [(0,AV.slc 3 4 v 0 1 m none,none),(1,AV.int .i64 (Int.ofNat 0),none),(2,AV.int .i64 (Int.ofNat m),none),(6,AV.int .i64 i,none),(7,AV.int .i64 j,none),(30,AV.bool false,some 1)])) { lock:=false,bs:=[(0,Blk.row (Row.I .i64 [p])),(0,Blk.row (Row.M [Seg.arr .i64 mk 12])),(0,Blk.row (Row.I .i64 [p])),(0,Blk.row (Row.G [s])),(v,Blk.row (Row.M [Seg.arr .i64 z m]))] })) { lock:=false,bs:=[(0,Blk.row (Row.I .i64 [p])),(0,Blk.row (Row.M [Seg.arr .i64 mk 12])),(0,Blk.row (Row.I .i64 [p])),(0,Blk.row (Row.G [s])),(v,Blk.row (Row.M [Seg.arr .i64 (updO (updO z (idO 0 j 1) (z (idO 0 (subI .i64 j (Int.ofNat 1)) 1))) (idO 0 (subI .i64 j (Int.ofNat 1)) 1) (z (idO 0 j 1))) m]))] }:=by kernel_rfl
noncomputable def swZ (z:Nat→Int) (j:Nat):Nat→Int:=updO (updO z j (z (j-1))) (j-1) (z j)
noncomputable def insF (z:Nat→Int):Nat→Nat→Int
 | 0=>z
 | j+1=>if z (j+1)<z j then insF (swZ z (j+1)) j else z
noncomputable def srtF (z:Nat→Int):Nat→Nat→Int
 | 0=>z
 | k+1=>insF (srtF z k) (k+1)
section
variable (n:Nat) (H:Heap) (p:Int) (mk z:Nat→Int) (s:AV) (v m:Nat)
theorem b115:∀ b,(0,b) ∈ blocksOf (bodyOf Try.f115)→b=.loop (part Try.f115 [1,0,0]):=by
 have:((blocksOf (bodyOf Try.f115)).filter fun x=>Nat.beq x.1 0)=[(0,.loop (part Try.f115 [1,0,0]))]:=by kernel_rfl
 intro b hb
 have hm:(0,b) ∈ ((blocksOf (bodyOf Try.f115)).filter fun x=>Nat.beq x.1 0):=List.mem_filter.2 ⟨hb,rfl⟩
 rw[this] at hm;simpa using hm
theorem b115i:∀ b,(2,b) ∈ blocksOf (part Try.f115 [1,0,0])→b=.loop (part Try.f115 [1,0,0,1,0,0,1,0,0]):=by
 have:((blocksOf (part Try.f115 [1,0,0])).filter fun x=>Nat.beq x.1 2)=[(2,.loop (part Try.f115 [1,0,0,1,0,0,1,0,0]))]:=by kernel_rfl
 intro b hb
 have hm:(2,b) ∈ ((blocksOf (part Try.f115 [1,0,0])).filter fun x=>Nat.beq x.1 2):=List.mem_filter.2 ⟨hb,rfl⟩
 rw[this] at hm;simpa using hm
theorem l115i (i:Nat) (hi:i<m) (hm:m≤100):∃ y:Frm×Heap,exec (cxD (n+2) 115 49) (.block 2 (.loop (part Try.f115 [1,0,0,1,0,0,1,0,0]))) (fr115i v m i i) (lv0::lv0::lv0::lvSo p mk z s v m::H)=some (.normal,y)∧∃ j2:Int,y=(fr115i v m i j2++[(30,.bool false)],lv0::lv0::lv0::lvSo p mk (insF z i) s v m::H):=by
 refine loopI (n:=n+2) (f:=115) (nt:=49) (c:=part Try.f115 [1,0,0,1,0,0,1,0,0]) 2 (fun k fr G=>∃ (z':Nat→Int) (j:Nat),j+k=i∧fr=fr115i v m i j∧G=lv0::lv0::lv0::lvSo p mk z' s v m::H∧insF z' j=insF z i) _ (i+1) (by omega) ⟨z,i,by omega,rfl,rfl,rfl⟩ (fun k fr G hI=>?_)
 obtain ⟨z',j,h1,rfl,rfl,h2⟩:=hI
 rw[← h2]
 cases j with
 | zero =>
   obtain ⟨x,hx1,hx2⟩:=ex_all (Q:=fun x=>x=(.exit 2,fr115i v m i ((0:Nat):Int)++[(30,.bool false)],lv0::lv0::lv0::lvSo p mk z' s v m::H)) (t115i n H p mk z' s v m (i:Int) ((0:Nat):Int)) (il_no n 2) (noBT_ok _ _) (noRT_ok _ _) (by
    repeat' first | (refine Tr.all_ite (fun hc=>?_) (fun hc=>?_)<;>(try simp (disch:=omega) only[nV,nW] at hc)<;>try omega) | (refine Tr.all_req ?_ ?_;· (try simp (disch:=omega) only[nV,nW]);try omega) | (refine Tr.all_reqP ?_ ?_;· first | exact trivial | rfl | exact ⟨rfl,rfl⟩ | exact ⟨rfl,rfl,rfl⟩ | (simp (disch:=omega) only[nV,nW];done) | ((try simp (disch:=omega) only[nV,nW]);omega)) | fail
    exact Tr.all_ok rfl)
   exact ⟨x,hx1,.inr (by rw[hx2];exact ⟨rfl,_,rfl⟩)⟩
 | succ j =>
   have es:subI .i64 ((j+1:Nat):Int) (Int.ofNat 1)=(j:Int):=by rw[subI_eq,show Int.ofNat 1=1 from rfl,wr_64 (by omega) (by omega)];omega
   have ed:idO 0 ((j+1:Nat):Int) 1=j+1:=by rw[idO_eq];omega
   have ee:idO 0 (j:Int) 1=j:=by rw[idO_eq];omega
   have eu:updO (updO z' (j+1) (z' j)) j (z' (j+1))=swZ z' (j+1):=rfl
   by_cases hlt:z' (j+1)<z' j
   · obtain ⟨x,hx1,hx2⟩:=ex_all (Q:=fun x=>x.1=.normal∧tidy 0 x.2.1 x.2.2=(fr115i v m i (j:Int),lv0::lv0::lv0::lvSo p mk (swZ z' (j+1)) s v m::H)) (t115i n H p mk z' s v m (i:Int) ((j+1:Nat):Int)) (il_no n 2) (noBT_ok _ _) (noRT_ok _ _) (by
      rw[es,ed,ee,eu]
      repeat' first | (refine Tr.all_ite (fun hc=>?_) (fun hc=>?_)<;>(try simp (disch:=omega) only[nV,nW] at hc)<;>try omega) | (refine Tr.all_req ?_ ?_;· (try simp (disch:=omega) only[nV,nW]);try omega) | (refine Tr.all_reqP ?_ ?_;· first | exact trivial | rfl | exact ⟨rfl,rfl⟩ | exact ⟨rfl,rfl,rfl⟩ | (simp (disch:=omega) only[nV,nW];done) | ((try simp (disch:=omega) only[nV,nW]);omega)) | fail
      all_goals exact Tr.all_ok ⟨rfl,rfl⟩)
     refine ⟨x,hx1,.inl ⟨hx2.1,by omega,swZ z' (j+1),j,by omega,?_,?_,?_⟩⟩
     · have:=congrArg Prod.fst hx2.2
       exact this
     · have:=congrArg Prod.snd hx2.2
       exact this
     · show _=(if z' (j+1)<z' j then insF (swZ z' (j+1)) j else z')
       rw[if_pos hlt]
   · obtain ⟨x,hx1,hx2⟩:=ex_all (Q:=fun x=>x=(.exit 2,fr115i v m i ((j+1:Nat):Int)++[(30,.bool false)],lv0::lv0::lv0::lvSo p mk z' s v m::H)) (t115i n H p mk z' s v m (i:Int) ((j+1:Nat):Int)) (il_no n 2) (noBT_ok _ _) (noRT_ok _ _) (by
      rw[es,ed,ee,eu]
      repeat' first | (refine Tr.all_ite (fun hc=>?_) (fun hc=>?_)<;>(try simp (disch:=omega) only[nV,nW] at hc)<;>try omega) | (refine Tr.all_req ?_ ?_;· (try simp (disch:=omega) only[nV,nW]);try omega) | (refine Tr.all_reqP ?_ ?_;· first | exact trivial | rfl | exact ⟨rfl,rfl⟩ | exact ⟨rfl,rfl,rfl⟩ | (simp (disch:=omega) only[nV,nW];done) | ((try simp (disch:=omega) only[nV,nW]);omega)) | fail
      all_goals exact Tr.all_ok rfl)
     refine ⟨x,hx1,.inr ?_⟩
     rw[hx2]
     refine ⟨rfl,((j+1:Nat):Int),?_⟩
     rw[show insF z' (j+1)=(if z' (j+1)<z' j then insF (swZ z' (j+1)) j else z') from rfl,if_neg hlt]
theorem l115 (h1:1≤m) (hm:m≤100):exec (cxD (n+2) 115 49) (.block 0 (.loop (part Try.f115 [1,0,0]))) (fr115 v m ((1:Nat):Int)) (lv0::lv0::lv0::lvSo p mk z s v m::H)=some (.normal,fr115 v m ((m:Nat):Int)++[(12,.bool false)],lv0::lv0::lv0::lvSo p mk (srtF z (m-1)) s v m::H):=by
 have:=forX (n:=n+2) (f:=115) (nt:=49) (c:=part Try.f115 [1,0,0]) 0 (fun k=>fr115 v m ((k+1:Nat):Int)) (fun k=>lv0::lv0::lv0::lvSo p mk (srtF z k) s v m::H) (m-1) (fr115 v m ((m:Nat):Int)++[(12,.bool false)],lv0::lv0::lv0::lvSo p mk (srtF z (m-1)) s v m::H) (by omega) (fun k hk=>?_) ?_
 · exact this
 · obtain ⟨y,hy,j2,rfl⟩:=l115i n H p mk (srtF z k) s v m (k+1) (by omega) hm
   have ej:addI .i64 ((k+1:Nat):Int) (Int.ofNat 1)=((k+1+1:Nat):Int):=by rw[addI_eq,show Int.ofNat 1=1 from rfl];exact wr_64 (by omega) (by omega)
   refine ex_all (t115o n H p mk (srtF z k) (srtF z (k+1)) s v m ((k+1:Nat):Int) j2) (il_no n 2) (blkE_ok (noBT_ok _ _) b115i (fun x hx=>by rw[← Tr.ok_some hx];simp only[Res.st,hints_eq];exact hy)) (noRT_ok _ _) ?_
   rw[ej]
   repeat' first | (refine Tr.all_ite (fun hc=>?_) (fun hc=>?_)<;>(try simp (disch:=omega) only[nV,nW] at hc)<;>try omega) | (refine Tr.all_req ?_ ?_;· (try simp (disch:=omega) only[nV,nW]);try omega) | (refine Tr.all_reqP ?_ ?_;· first | exact trivial | rfl | exact ⟨rfl,rfl⟩ | exact ⟨rfl,rfl,rfl⟩ | (simp (disch:=omega) only[nV,nW];done) | ((try simp (disch:=omega) only[nV,nW]);omega)) | fail
   exact Tr.all_ok ⟨rfl,rfl⟩
 · have e:((m-1+1:Nat):Int)=(m:Int):=by omega
   rw[e]
   obtain ⟨x,h1,rfl⟩:=ex_all (Q:=fun x=>x=(.exit 0,fr115 v m ((m:Nat):Int)++[(12,.bool false)],lv0::lv0::lv0::lvSo p mk (srtF z (m-1)) s v m::H)) (t115e n H p mk (srtF z (m-1)) s v m (m:Int)) (il_no n 2) (stopB_ok (noBT_ok _ _) 2) (noRT_ok _ _) (by
    repeat' first | (refine Tr.all_ite (fun hc=>?_) (fun hc=>?_)<;>(try simp (disch:=omega) only[nV,nW] at hc)<;>try omega) | (refine Tr.all_req ?_ ?_;· (try simp (disch:=omega) only[nV,nW]);try omega) | (refine Tr.all_reqP ?_ ?_;· first | exact trivial | rfl | exact ⟨rfl,rfl⟩ | exact ⟨rfl,rfl,rfl⟩ | (simp (disch:=omega) only[nV,nW];done) | ((try simp (disch:=omega) only[nV,nW]);omega)) | fail
    exact Tr.all_ok rfl)
   exact h1
theorem c115 (h1:1≤m) (hm:m≤100):cd (n+3) (.fn 115) [.slc 2 4 v 0 1 m none,.int .i64 0,.int .i64 (Int.ofNat m)] (lv0::lv0::lvSo p mk z s v m::H)=some (.tup [],lv0::lv0::lvSo p mk (srtF z (m-1)) s v m::H):=by
 have l:=l115 n H p mk z s v m h1 hm
 have e1:addI .i64 0 1=((1:Nat):Int):=by rw[addI_eq];rfl
 refine fn_all (n:=n+2) Try.func115 rfl rfl rfl (u115 n H p mk z (srtF z (m-1)) s v m ((m:Nat):Int)) (il_no n 2) (blkE_ok (noBT_ok _ _) b115 (fun x hx=>by rw[← Tr.ok_some hx,e1];simp only[Res.st,hints_eq];exact l)) (noRT_ok _ _) ?_
 repeat' first | (refine Tr.all_ite (fun hc=>?_) (fun hc=>?_)<;>(try simp (disch:=omega) only[nV,nW] at hc)<;>try omega) | (refine Tr.all_req ?_ ?_;· (try simp (disch:=omega) only[nV,nW]);try omega) | (refine Tr.all_reqP ?_ ?_;· first | exact trivial | rfl | exact ⟨rfl,rfl⟩ | exact ⟨rfl,rfl,rfl⟩ | (simp (disch:=omega) only[nV,nW];done) | ((try simp (disch:=omega) only[nV,nW]);omega)) | fail
 exact Tr.all_ok ⟨rfl,rfl⟩
theorem c113 (h1:1≤m) (hm:m≤12) (lim:Int):cd (n+4) (.fn 113) [.slc 1 4 v 0 1 m none,.int .i64 0,.int .i64 (Int.ofNat m),.int .i64 lim] (lv0::lvSo p mk z s v m::H)=some (.tup [],lv0::lvSo p mk (srtF z (m-1)) s v m::H):=by
 refine fn_all (n:=n+3) Try.func113 rfl rfl rfl (u113 n H p mk z (srtF z (m-1)) s v m lim) (il_ok _ (n+3) 0 (fun k=>ctE_ok (noCt_ok _) (fun x hx=>?_))) (noBT_ok _ _) (noRT_ok _ _) ?_
 · rw[← Tr.ok_some hx,show n+3+k=n+k+3 by omega]
   exact c115 (n+k) H p mk z s v m h1 (by omega)
 · repeat' first | (refine Tr.all_ite (fun hc=>?_) (fun hc=>?_)<;>(try simp (disch:=omega) only[nV,nW] at hc)<;>try omega) | (refine Tr.all_req ?_ ?_;· (try simp (disch:=omega) only[nV,nW]);try omega) | (refine Tr.all_reqP ?_ ?_;· first | exact trivial | rfl | exact ⟨rfl,rfl⟩ | exact ⟨rfl,rfl,rfl⟩ | (simp (disch:=omega) only[nV,nW];done) | ((try simp (disch:=omega) only[nV,nW]);omega)) | fail
   exact Tr.all_ok ⟨rfl,rfl⟩
def limN (x:Nat):Int:=if x<2 then 1 else if x<4 then 2 else if x<8 then 3 else 4
theorem c114_1 (n:Nat) (H:Heap):cd (n+3) (.fn 114) [.int .u64 (Int.ofNat 1)] H=some (.int .i64 (limN 1),H):=by kernel_rfl
theorem c114_2 (n:Nat) (H:Heap):cd (n+3) (.fn 114) [.int .u64 (Int.ofNat 2)] H=some (.int .i64 (limN 2),H):=by kernel_rfl
theorem c114_3 (n:Nat) (H:Heap):cd (n+3) (.fn 114) [.int .u64 (Int.ofNat 3)] H=some (.int .i64 (limN 3),H):=by kernel_rfl
theorem c114_4 (n:Nat) (H:Heap):cd (n+3) (.fn 114) [.int .u64 (Int.ofNat 4)] H=some (.int .i64 (limN 4),H):=by kernel_rfl
theorem c114_5 (n:Nat) (H:Heap):cd (n+3) (.fn 114) [.int .u64 (Int.ofNat 5)] H=some (.int .i64 (limN 5),H):=by kernel_rfl
theorem c114_6 (n:Nat) (H:Heap):cd (n+3) (.fn 114) [.int .u64 (Int.ofNat 6)] H=some (.int .i64 (limN 6),H):=by kernel_rfl
theorem c114_7 (n:Nat) (H:Heap):cd (n+3) (.fn 114) [.int .u64 (Int.ofNat 7)] H=some (.int .i64 (limN 7),H):=by kernel_rfl
theorem c114_8 (n:Nat) (H:Heap):cd (n+3) (.fn 114) [.int .u64 (Int.ofNat 8)] H=some (.int .i64 (limN 8),H):=by kernel_rfl
theorem c114_9 (n:Nat) (H:Heap):cd (n+3) (.fn 114) [.int .u64 (Int.ofNat 9)] H=some (.int .i64 (limN 9),H):=by kernel_rfl
theorem c114_10 (n:Nat) (H:Heap):cd (n+3) (.fn 114) [.int .u64 (Int.ofNat 10)] H=some (.int .i64 (limN 10),H):=by kernel_rfl
theorem c114_11 (n:Nat) (H:Heap):cd (n+3) (.fn 114) [.int .u64 (Int.ofNat 11)] H=some (.int .i64 (limN 11),H):=by kernel_rfl
theorem c114_12 (n:Nat) (H:Heap):cd (n+3) (.fn 114) [.int .u64 (Int.ofNat 12)] H=some (.int .i64 (limN 12),H):=by kernel_rfl
theorem c114 (x:Nat) (hx:1≤x∧x≤12) (n:Nat) (H:Heap):cd (n+3) (.fn 114) [.int .u64 (Int.ofNat x)] H=some (.int .i64 (limN x),H):=by
 have:x=1∨x=2∨x=3∨x=4∨x=5∨x=6∨x=7∨x=8∨x=9∨x=10∨x=11∨x=12:=by omega
 rcases this with rfl | rfl | rfl | rfl | rfl | rfl | rfl | rfl | rfl | rfl | rfl | rfl
 · exact c114_1 n H
 · exact c114_2 n H
 · exact c114_3 n H
 · exact c114_4 n H
 · exact c114_5 n H
 · exact c114_6 n H
 · exact c114_7 n H
 · exact c114_8 n H
 · exact c114_9 n H
 · exact c114_10 n H
 · exact c114_11 n H
 · exact c114_12 n H
theorem c108 (h1:1≤m) (hm:m≤12):cd (n+5) (.fn 108) [.slc 0 4 v 0 1 m none] (lvSo p mk z s v m::H)=some (.tup [],lvSo p mk (srtF z (m-1)) s v m::H):=by
 have ew:wrI .u64 (Int.ofNat m)=Int.ofNat m:=by
  rw[wrI_eq]
  simp only[IntKind.wrap,IntKind.signed,IntKind.bits]
  simp
  omega
 refine fn_all (n:=n+4) Try.func108 rfl rfl rfl (u108 n H p mk z (srtF z (m-1)) s v m (limN m)) (il_ok _ (n+4) 0 (fun k=>ctG_ok (ctE_ok (noCt_ok _) (fun x hx=>?_)) (fun args p' v' hg hp H=>?_))) (noBT_ok _ _) (noRT_ok _ _) ?_
 · rw[← Tr.ok_some hx,show n+4+k=n+k+4 by omega]
   exact c113 (n+k) H p mk z s v m h1 hm _
 · unfold g114 at hg
   split at hg
   · simp only[nP] at hg
     obtain ⟨rfl,rfl⟩:=hg
     subst hp
     rw[show n+4+k=n+1+k+3 by omega]
     exact c114 m ⟨h1,hm⟩ _ H
   · cases hg
 · rw[ew]
   refine Tr.all_reqP rfl (Tr.all_reqP ⟨rfl,rfl⟩ (Tr.all_ok ⟨rfl,rfl⟩))
end
end Go.Eng
end
