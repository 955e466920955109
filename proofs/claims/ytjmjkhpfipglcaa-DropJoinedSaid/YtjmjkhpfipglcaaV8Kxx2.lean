/- Drop: near, of closures that have come one level up. -/
import Derived.Test.YtjmjkhpfipglcaaV8Fbx3
import Derived.Test.YtjmjkhpfipglcaaV8Wb
section
namespace Go.Eng
open Go.Proofs
set_option linter.unusedVariables false
set_option linter.unusedSimpArgs false
set_option maxRecDepth 100000
noncomputable def capsQ (tk:Nat) (w:Int) (ls ld:Nat) (zs zd sz kd:Nat→Int) (p:Int) (sure:Bool):List AV:=[.ptrT (some 1) (.G [tabR tk w ls ld zs zd sz kd]) 0,.ptrT none (.I .i64 [p]) 0,.ptrT (some 1) (.G [.bool sure]) 0]
noncomputable def fr110q (tk:Nat) (w:Int) (ls ld:Nat) (zs zd sz kd:Nat→Int) (p:Int) (sure:Bool):Frm:=[(1,.ptrT (some 2) (.G [tabR tk w ls ld zs zd sz kd]) 0),(2,.ptrT none (.I .i64 [p]) 0),(3,.ptrT (some 2) (.G [.bool sure]) 0),(4,.ptr 0 0 0 0),(16,.fn (.func 109) [] [.ptrT (some 0) (.G [tabR (tk+2) w ls ld zs zd sz kd]) 0])]
noncomputable def frXq (tk:Nat) (w:Int) (ls ld:Nat) (zs zd sz kd:Nat→Int) (p:Int) (sure:Bool) (q:Int):Frm:=[(1,.ptrT (some 4) (.G [tabR tk w ls ld zs zd sz kd]) 0),(2,.ptrT none (.I .i64 [p]) 0),(3,.ptrT (some 4) (.G [.bool sure]) 0),(4,.ptr 2 0 0 0),(16,.fn (.func 109) [] [.ptrT (some 2) (.G [tabR (tk+2) w ls ld zs zd sz kd]) 0]),(17,.int .i64 q)]
noncomputable def frYq (tk:Nat) (w:Int) (ls ld:Nat) (zs zd sz kd:Nat→Int) (p:Int) (sure:Bool) (q:Int):Frm:=[(1,.ptrT (some 4) (.G [tabR tk w ls ld zs zd sz kd]) 0),(2,.ptrT none (.I .i64 [p]) 0),(3,.ptrT (some 4) (.G [.bool sure]) 0),(4,.ptr 2 0 0 0),(5,.int .i64 q)]
noncomputable def frNq (tk:Nat) (w:Int) (ls ld:Nat) (zs zd sz kd:Nat→Int) (q:Int):Frm:=[(0,.yld 1 1),(1,.ptrT (some 1) (.G [tabR (tk+2) w ls ld zs zd sz kd]) 0),(3,.int .i64 q)]
theorem t110aq (n:Nat) (tk:Nat) (w:Int) (ls ld:Nat) (zs zd sz kd:Nat→Int) (G:Heap) (p q:Int) (sure:Bool):execT (cx110 n) (il noCt n 0) noBT noRT (part Try.f110 [1,1,1,0,0]) (hints (frXq tk w ls ld zs zd sz kd p sure q)) (lv0::lv0::G) =
 Tr.ok (Ex.normal,[(1,AV.ptrT (some 4) (Row.G [tabR tk w ls ld zs zd sz kd]) 0,none),(2,AV.ptrT none (Row.I .i64 [p]) 0,none),(3,AV.ptrT (some 4) (Row.G [AV.bool sure]) 0,none),(4,AV.ptr 2 0 0 0,none),(5,AV.int .i64 q,none)],lv0::lv0::G):=by kernel_rfl
theorem t109nq (n:Nat) (tk:Nat) (w:Int) (ls ld:Nat) (zs zd sz kd:Nat→Int) (G G':Heap) (q:Int) (b:Bool):execT (cxD n 109 18) (rdE (il noCt n 0) 1 1 [.int .i64 q] (lv0::G) (.ok (.bool b,lv0::G'))) noBT noRT (part Try.f109 [1,0,0]) (hints (frNq tk w ls ld zs zd sz kd q)) (lv0::G) =
 (fun (Z0:Nat×AV×Option Nat)=>Tr.ite (ltI q (Int.ofNat ls)) (Tr.reqP ([AV.int .i64 q]=[AV.int .i64 q]∧lv0::G=lv0::G) (Tr.ite (notB b) (Tr.ok (Ex.ret,[(0,AV.yld 1 1,none),Z0,(3,AV.int .i64 q,none),(17,AV.bool true,some 1)],lv0::G')) (Tr.ok (Ex.normal,[(0,AV.yld 1 1,none),Z0,(3,AV.int .i64 (addI .i64 q (Int.ofNat 1)),none)],lv0::G')))) (Tr.ok (Ex.exit 0,[(0,AV.yld 1 1,none),Z0,(3,AV.int .i64 q,none),(11,AV.bool false,some 1)],lv0::G))) (1,AV.ptrT (some 1) (Row.G [AV.ptrT (some (Nat.succ (Nat.succ tk))) (Row.M [Seg.one (AV.int .i64 w),Seg.one (slA 2 ls zs),Seg.one (slA 3 ld zd),Seg.one (.slcT none (.M [.arr .i64 sz (mulO ls 2)]) 2 ls true),Seg.arr .i64 kd 144]) 0]) 0,none):=by kernel_rfl
theorem t109neq (n:Nat) (tk:Nat) (w:Int) (ls ld:Nat) (zs zd sz kd:Nat→Int) (G:Heap) (q:Int):execT (cxD n 109 18) (il noCt n 0) noBT noRT (part Try.f109 [1,0,0]) (hints (frNq tk w ls ld zs zd sz kd q)) (lv0::G) =
 Tr.ite (ltI q (Int.ofNat ls)) Tr.bad (Tr.ok (Ex.exit 0,[(0,AV.yld 1 1,none),(1,AV.ptrT (some 1) (Row.G [AV.ptrT (some (Nat.succ (Nat.succ tk))) (Row.M [Seg.one (AV.int .i64 w),Seg.one (slA 2 ls zs),Seg.one (slA 3 ld zd),Seg.one (.slcT none (.M [.arr .i64 sz (mulO ls 2)]) 2 ls true),Seg.arr .i64 kd 144]) 0]) 0,none),(3,AV.int .i64 q,none),(11,AV.bool false,some 1)],lv0::G)):=by kernel_rfl
theorem u109nq (n:Nat) (tk:Nat) (w:Int) (ls ld:Nat) (zs zd sz kd:Nat→Int) (G G1:Heap) (e:Bool) (fA:Frm):bodyT Try.prog (cd n) 100000 109 Try.f109 (Kt.kt 109) (il noCt n 0) (blkE noBT 0 (frNq tk w ls ld zs zd sz kd (-2)) (lv0::G) (.ite e (.ok (.ret,hints fA,lv0::G1)) (.ok (.normal,hints fA,lv0::G1)))) noRT [(.yld 0 1,none),(.ptrT (some 0) (.G [tabR (tk+2) w ls ld zs zd sz kd]) 0,none)] G =
 (fun (Z0:Frm)=>Tr.reqP (Z0=Z0∧lv0::G=lv0::G) (Tr.ite e (Tr.ok ((AV.tup [],none),G1)) (Tr.ok ((AV.tup [],none),G1)))) [(0,AV.yld 1 1),(1,AV.ptrT (some 1) (Row.G [AV.ptrT (some (Nat.succ (Nat.succ tk))) (Row.M [Seg.one (AV.int .i64 w),Seg.one (slA 2 ls zs),Seg.one (slA 3 ld zd),Seg.one (.slcT none (.M [.arr .i64 sz (mulO ls 2)]) 2 ls true),Seg.arr .i64 kd 144]) 0]) 0),(3,AV.int .i64 (Int.negSucc 1))]:=by kernel_rfl
noncomputable def rec110q (tk:Nat) (w:Int) (ls ld:Nat) (zs zd sz kd:Nat→Int) (p:Int) (sure:Bool):ALoop:={ state:=.ready,pending:=none,fn:=110,nt:=29,fr:=fr110q tk w ls ld zs zd sz kd p sure,params:=[17],assign:=part Try.f110 [1,1,1,0,0],body:=part Try.f110 [1,1,1,0,1] }
noncomputable def recNq (tk:Nat) (w:Int) (ls ld:Nat) (zs zd sz kd:Nat→Int) (p:Int) (sure b:Bool):ALoop:=cond b { rec110q tk w ls ld zs zd sz kd p sure with state:=.done,pending:=some .ret } (rec110q tk w ls ld zs zd sz kd p sure)
theorem t110cq (R n:Nat) (tk:Nat) (w:Int) (ls ld:Nat) (zs zd sz kd:Nat→Int) (G:Heap) (p q:Int) (sure:Bool) (L:ALoop):execT (cx110 (n+2)) (il noCt n 2) noBT noRT (part Try.f110 [1,1,1,0,1]) (hints (frYq tk w ls ld zs zd sz kd p sure q)) (lv0::lv0::lv110 R [(0,.loop L)]::G) =
 Tr.ite sure (Tr.req (inI (addI .i64 p (Int.ofNat 2)) 12) (Tr.req (inI (addI .i64 q (Int.ofNat 2)) 12) (Tr.req (inO (idO (idO 4 (addI .i64 p (Int.ofNat 2)) 12) (addI .i64 q (Int.ofNat 2)) 1) 1 4 144) (Tr.ite (leI (Int.ofNat 2) (kd (subO (idO (idO 4 (addI .i64 p (Int.ofNat 2)) 12) (addI .i64 q (Int.ofNat 2)) 1) 4))) Tr.bad (Tr.ok (Ex.normal,[(28,AV.bool false,some 1)],lv0::lv0::{ lock:=false,bs:=[(0,Blk.row (Row.G [AV.yld 1 R])),(0,Blk.loop L)] } :: G)))))) (Tr.req (inI (addI .i64 p (Int.ofNat 2)) 12) (Tr.req (inI (addI .i64 q (Int.ofNat 2)) 12) (Tr.req (inO (idO (idO 4 (addI .i64 p (Int.ofNat 2)) 12) (addI .i64 q (Int.ofNat 2)) 1) 1 4 144) (Tr.ite (leI (Int.ofNat 1) (kd (subO (idO (idO 4 (addI .i64 p (Int.ofNat 2)) 12) (addI .i64 q (Int.ofNat 2)) 1) 4))) Tr.bad (Tr.ok (Ex.normal,[(28,AV.bool false,some 1)],lv0::lv0::{ lock:=false,bs:=[(0,Blk.row (Row.G [AV.yld 1 R])),(0,Blk.loop L)] } :: G)))))):=by kernel_rfl
theorem t110bq (R n:Nat) (tk:Nat) (w:Int) (ls ld:Nat) (zs zd sz kd:Nat→Int) (G G':Heap) (p q:Int) (sure b:Bool) (L L':ALoop):execT (cx110 (n+2)) (rdN (il noCt n 2) 3 R [.int .i64 q] (lv0::lv0::lv110 R [(0,.loop L)]::G) (.ok (.bool b,lv0::lv0::lv110 R [(0,.loop L')]::G'))) noBT noRT (part Try.f110 [1,1,1,0,1]) (hints (frYq tk w ls ld zs zd sz kd p sure q)) (lv0::lv0::lv110 R [(0,.loop L)]::G) =
 (fun (Z0:Lvl)=>((fun (Z1:Lvl)=>Tr.ite sure (Tr.req (inI (addI .i64 p (Int.ofNat 2)) 12) (Tr.req (inI (addI .i64 q (Int.ofNat 2)) 12) (Tr.req (inO (idO (idO 4 (addI .i64 p (Int.ofNat 2)) 12) (addI .i64 q (Int.ofNat 2)) 1) 1 4 144) (Tr.ite (leI (Int.ofNat 2) (kd (subO (idO (idO 4 (addI .i64 p (Int.ofNat 2)) 12) (addI .i64 q (Int.ofNat 2)) 1) 4))) (Tr.reqP (R=R∧[AV.int .i64 q]=[AV.int .i64 q]∧lv0::lv0::Z0::G=lv0::lv0::Z0::G) (Tr.ite (notB b) (Tr.ok (Ex.ret,[(28,AV.bool true,some 1)],lv0::lv0::Z1::G')) (Tr.ok (Ex.normal,[(28,AV.bool false,some 1)],lv0::lv0::Z1::G')))) (Tr.ok (Ex.normal,[(28,AV.bool false,some 1)],lv0::lv0::Z0::G)))))) (Tr.req (inI (addI .i64 p (Int.ofNat 2)) 12) (Tr.req (inI (addI .i64 q (Int.ofNat 2)) 12) (Tr.req (inO (idO (idO 4 (addI .i64 p (Int.ofNat 2)) 12) (addI .i64 q (Int.ofNat 2)) 1) 1 4 144) (Tr.ite (leI (Int.ofNat 1) (kd (subO (idO (idO 4 (addI .i64 p (Int.ofNat 2)) 12) (addI .i64 q (Int.ofNat 2)) 1) 4))) (Tr.reqP (R=R∧[AV.int .i64 q]=[AV.int .i64 q]∧lv0::lv0::Z0::G=lv0::lv0::Z0::G) (Tr.ite (notB b) (Tr.ok (Ex.ret,[(28,AV.bool true,some 1)],lv0::lv0::Z1::G')) (Tr.ok (Ex.normal,[(28,AV.bool false,some 1)],lv0::lv0::Z1::G')))) (Tr.ok (Ex.normal,[(28,AV.bool false,some 1)],lv0::lv0::Z0::G))))))) { lock:=false,bs:=[(0,Blk.row (Row.G [AV.yld 1 R])),(0,Blk.loop L')] })) { lock:=false,bs:=[(0,Blk.row (Row.G [AV.yld 1 R])),(0,Blk.loop L)] }:=by kernel_rfl
theorem u110q (R n:Nat) (tk:Nat) (w:Int) (ls ld:Nat) (zs zd sz kd:Nat→Int) (G G1:Heap) (p:Int) (sure e:Bool):bodyT Try.prog (cd (n+4)) 100000 110 Try.f110 (Kt.kt 110) (il noCt (n+3) 1) noBT (rgE noRT (fun _=>true) (fr110q tk w ls ld zs zd sz kd p sure) (lv110 R []::G) (.ite e (.ok (.ret,hints (fr110q tk w ls ld zs zd sz kd p sure),lv110 R [(0,.dead)]::G1)) (.ok (.normal,hints (fr110q tk w ls ld zs zd sz kd p sure),lv110 R [(0,.dead)]::G1)))) [(.yld 0 R,none),(.ptrT (some 1) (.G [tabR tk w ls ld zs zd sz kd]) 0,none),(.ptrT none (.I .i64 [p]) 0,none),(.ptrT (some 1) (.G [.bool sure]) 0,none)] G =
 (fun (Z0:Frm)=>Tr.req (inI (addI .i64 p (Int.ofNat 2)) 12) (Tr.req (inO (idO 4 (addI .i64 p (Int.ofNat 2)) 12) 12 4 144) (Tr.ite (alleqO (shO kd (subO (idO 4 (addI .i64 p (Int.ofNat 2)) 12) 4)) (fun x=>Int.ofNat 0) 12) (Tr.ok ((AV.tup [],none),G)) (Tr.reqP (Z0=Z0∧{ lock:=false,bs:=[(0,Blk.row (Row.G [AV.yld 1 R]))] } :: G={ lock:=false,bs:=[(0,Blk.row (Row.G [AV.yld 1 R]))] } :: G) (Tr.ite e (Tr.ok ((AV.tup [],none),G1)) (Tr.ok ((AV.tup [],none),G1))))))) [(1,AV.ptrT (some 2) (Row.G [tabR tk w ls ld zs zd sz kd]) 0),(2,AV.ptrT none (Row.I .i64 [p]) 0),(3,AV.ptrT (some 2) (Row.G [AV.bool sure]) 0),(4,AV.ptr 0 0 0 0),(16,AV.fn (Fn.func 109) [] [AV.ptrT (some 0) (Row.G [AV.ptrT (some (Nat.succ (Nat.succ tk))) (Row.M [Seg.one (AV.int .i64 w),Seg.one (slA 2 ls zs),Seg.one (slA 3 ld zd),Seg.one (.slcT none (.M [.arr .i64 sz (mulO ls 2)]) 2 ls true),Seg.arr .i64 kd 144]) 0]) 0])]:=by kernel_rfl
section
variable (R n:Nat) (tk:Nat) (w:Int) (ls ld:Nat) (zs zd sz kd:Nat→Int) (p:Int) (sure:Bool)
theorem rd110q {G X:Nat→Heap} {go:Nat→Bool} (hG:NearR R n ls kd p sure G X go) (hp:-2≤p∧p<10) (hls:ls≤10) (j:Nat) (hj:j<ls+2):cd (n+3) (.round 1 1) [.int .i64 ((j:Int)-2)] (lv0::lv110 R [(0,.loop (rec110q tk w ls ld zs zd sz kd p sure))]::G j) =
 some (.bool (!(hlK kd sure p ((j:Int)-2) && !go j)),lv0::lv110 R [(0,.loop (recNq tk w ls ld zs zd sz kd p sure (hlK kd sure p ((j:Int)-2) && !go j)))]::(if (hlK kd sure p ((j:Int)-2) && !go j)=true then X j else G (j+1))):=by
 have ha:exec (cx110 (n+2)) (part Try.f110 [1,1,1,0,0]) (frXq tk w ls ld zs zd sz kd p sure ((j:Int)-2)) (lv0::lv0::lv110 R [(0,.loop (rec110q tk w ls ld zs zd sz kd p sure))]::G j)=some (.normal,frYq tk w ls ld zs zd sz kd p sure ((j:Int)-2),lv0::lv0::lv110 R [(0,.loop (rec110q tk w ls ld zs zd sz kd p sure))]::G j):=by
  have:=execT_ok (cx:=cx110 (n+2)) (il_no0 (n+2)) (part Try.f110 [1,1,1,0,0]) (noBT_ok _ _) (noRT_ok _ _) (hints (frXq tk w ls ld zs zd sz kd p sure ((j:Int)-2))) (lv0::lv0::lv110 R [(0,.loop (rec110q tk w ls ld zs zd sz kd p sure))]::G j) _ (by rw[t110aq];rfl)
  rw[hints_eq] at this
  exact this
 have h2:∀ L:ALoop,∃ fr',exec (cx110 (n+2)) (part Try.f110 [1,1,1,0,1]) (frYq tk w ls ld zs zd sz kd p sure ((j:Int)-2)) (lv0::lv0::lv110 R [(0,.loop L)]::G j)=some (cond (hlK kd sure p ((j:Int)-2) && !go j) Ex.ret Ex.normal,fr',lv0::lv0::lv110 R [(0,.loop L)]::(if (hlK kd sure p ((j:Int)-2) && !go j)=true then X j else G (j+1))):=by
  intro L
  have e1:addI .i64 p (Int.ofNat 2)=p+2:=by rw[addI_eq,show Int.ofNat 2=2 from rfl];exact wr_64 (by omega) (by omega)
  have e2:addI .i64 ((j:Int)-2) (Int.ofNat 2)=(j:Int):=by rw[addI_eq,show Int.ofNat 2=2 from rfl,wr_64 (by omega) (by omega)];omega
  have ei:subO (idO (idO 4 (p+2) 12) (j:Int) 1) 4=(p+2).toNat*12+j:=by rw[subO_eq,idO_eq,idO_eq];simp;omega
  have eh:hlK kd sure p ((j:Int)-2)=decide ((if sure then 2 else 1)≤kd ((p+2).toNat*12+j)):=by unfold hlK;rw[show ((j:Int)-2+2).toNat=j by omega]
  cases hh:hlK kd sure p ((j:Int)-2) with
  | true =>
    have key:(execT (cx110 (n+2)) (rdN (il noCt n 2) 3 R [.int .i64 ((j:Int)-2)] (lv0::lv0::lv110 R [(0,.loop L)]::G j) (.ok (.bool (go j),lv0::lv0::lv110 R [(0,.loop L)]::(if go j=true then G (j+1) else X j)))) noBT noRT (part Try.f110 [1,1,1,0,1]) (hints (frYq tk w ls ld zs zd sz kd p sure ((j:Int)-2))) (lv0::lv0::lv110 R [(0,.loop L)]::G j)).all fun x=>x.1=cond (true && !go j) Ex.ret Ex.normal∧x.2.2=lv0::lv0::lv110 R [(0,.loop L)]::(if (true && !go j)=true then X j else G (j+1)):=by
     rw[t110bq,e1,e2,ei]
     rw[eh,decide_eq_true_eq] at hh
     cases sure<;>simp only[Bool.false_eq_true,if_true,if_false] at hh<;>cases hgo:go j<;>repeat' first | (refine Tr.all_ite (fun hc=>?_) (fun hc=>?_)<;>(try simp (disch:=omega) only[nV,nW] at hc)<;>try omega) | (refine Tr.all_req ?_ ?_;· (try simp (disch:=omega) only[nV,nW]);try omega) | (refine Tr.all_reqP ?_ ?_;· first | exact trivial | rfl | exact ⟨rfl,rfl⟩ | exact ⟨rfl,rfl,rfl⟩ | (simp (disch:=omega) only[nV,nW];done) | ((try simp (disch:=omega) only[nV,nW]);omega)) | fail
     all_goals exact Tr.all_ok ⟨rfl,rfl⟩
    obtain ⟨x,h1,h3,h4⟩:=key
    have:=execT_ok (cx:=cx110 (n+2)) (rdN_ok (il_no n 2) (fun x hx=>by rw[← Tr.ok_some hx];exact hG.hit j hj hh L)) _ (noBT_ok _ _) (noRT_ok _ _) _ _ _ h1
    rw[hints_eq] at this
    refine ⟨strip x.2.1,this.trans ?_⟩
    obtain ⟨e,f,g⟩:=x
    dsimp only at h3 h4
    subst h3;subst h4
    rfl
  | false =>
    have key:(execT (cx110 (n+2)) (il noCt n 2) noBT noRT (part Try.f110 [1,1,1,0,1]) (hints (frYq tk w ls ld zs zd sz kd p sure ((j:Int)-2))) (lv0::lv0::lv110 R [(0,.loop L)]::G j)).all fun x=>x.1=Ex.normal∧x.2.2=lv0::lv0::lv110 R [(0,.loop L)]::G (j+1):=by
     rw[t110cq,e1,e2,ei,hG.skip j hj hh]
     rw[eh,decide_eq_false_iff_not] at hh
     cases sure<;>simp only[Bool.false_eq_true,if_true,if_false] at hh<;>repeat' first | (refine Tr.all_ite (fun hc=>?_) (fun hc=>?_)<;>(try simp (disch:=omega) only[nV,nW] at hc)<;>try omega) | (refine Tr.all_req ?_ ?_;· (try simp (disch:=omega) only[nV,nW]);try omega) | (refine Tr.all_reqP ?_ ?_;· first | exact trivial | rfl | exact ⟨rfl,rfl⟩ | exact ⟨rfl,rfl,rfl⟩ | (simp (disch:=omega) only[nV,nW];done) | ((try simp (disch:=omega) only[nV,nW]);omega)) | fail
     all_goals exact Tr.all_ok ⟨rfl,rfl⟩
    obtain ⟨x,h1,h3,h4⟩:=key
    have:=execT_ok (cx:=cx110 (n+2)) (il_no n 2) _ (noBT_ok _ _) (noRT_ok _ _) _ _ _ h1
    rw[hints_eq] at this
    refine ⟨strip x.2.1,this.trans ?_⟩
    obtain ⟨e,f,g⟩:=x
    dsimp only at h3 h4
    subst h3;subst h4
    rfl
 obtain ⟨fr',h2⟩:=h2 { rec110q tk w ls ld zs zd sz kd p sure with state:=.busy }
 have key:=round_of (P:=Try.prog) (ora:=oraD) (KT:=Kt.kt) (fu:=100000) (n:=n+2) (d:=1) (i:=1) (args:=[.int .i64 ((j:Int)-2)]) (H:=lv0::lv110 R [(0,.loop (rec110q tk w ls ld zs zd sz kd p sure))]::G j) (l:=rec110q tk w ls ld zs zd sz kd p sure) (l1:=rec110q tk w ls ld zs zd sz kd p sure) (l2:={ rec110q tk w ls ld zs zd sz kd p sure with state:=.busy }) (fr:=frXq tk w ls ld zs zd sz kd p sure ((j:Int)-2)) rfl rfl rfl rfl ha rfl rfl h2 rfl
 refine key.trans ?_
 cases (hlK kd sure p ((j:Int)-2) && !go j)<;>rfl
theorem c109nq {G X:Nat→Heap} {go:Nat→Bool} (hG:NearR R n ls kd p sure G X go) (hp:-2≤p∧p<10) (hls:ls≤10):cd (n+4) (.fn 109) [.yld 0 1,.ptrT (some 0) (.G [tabR (tk+2) w ls ld zs zd sz kd]) 0] (lv110 R [(0,.loop (rec110q tk w ls ld zs zd sz kd p sure))]::G 0) =
 some (.tup [],lv110 R [(0,.loop (recNq tk w ls ld zs zd sz kd p sure (exN (nrH kd sure p go) (ls+2))))]::(if exN (nrH kd sure p go) (ls+2)=true then X (fN (nrH kd sure p go) (ls+2) 0) else G (ls+2))):=by
 have l:=findX (n:=n+3) (f:=109) (nt:=18) (c:=part Try.f109 [1,0,0]) 0 (fun j=>frNq tk w ls ld zs zd sz kd ((j:Int)-2)) (fun j=>lv0::lv110 R [(0,.loop (rec110q tk w ls ld zs zd sz kd p sure))]::G j) (ls+2) (nrH kd sure p go)
  (fun j=>(frNq tk w ls ld zs zd sz kd ((j:Int)-2)++[(17,.bool true)],lv0::lv110 R [(0,.loop (recNq tk w ls ld zs zd sz kd p sure true))]::X j))
  (frNq tk w ls ld zs zd sz kd (((ls+2:Nat):Int)-2)++[(11,.bool false)],lv0::lv110 R [(0,.loop (rec110q tk w ls ld zs zd sz kd p sure))]::G (ls+2)) (by omega) (fun j hj=>?_) ?_
 · have hb:∃ fA,exec (cxD (n+3) 109 18) (.block 0 (.loop (part Try.f109 [1,0,0]))) (frNq tk w ls ld zs zd sz kd (-2)) (lv0::lv110 R [(0,.loop (rec110q tk w ls ld zs zd sz kd p sure))]::G 0)=some (cond (exN (nrH kd sure p go) (ls+2)) Ex.ret Ex.normal,fA,lv0::lv110 R [(0,.loop (recNq tk w ls ld zs zd sz kd p sure (exN (nrH kd sure p go) (ls+2))))]::(if exN (nrH kd sure p go) (ls+2)=true then X (fN (nrH kd sure p go) (ls+2) 0) else G (ls+2))):=by
    cases hc:exN (nrH kd sure p go) (ls+2) with
    | true=>rw[hc] at l;exact ⟨_,l⟩
    | false=>rw[hc] at l;exact ⟨_,l⟩
   obtain ⟨fA,hl⟩:=hb
   refine fn_all (n:=n+3) Try.func109 rfl rfl rfl (u109nq (n+3) tk w ls ld zs zd sz kd _ (lv110 R [(0,.loop (recNq tk w ls ld zs zd sz kd p sure (exN (nrH kd sure p go) (ls+2))))]::(if exN (nrH kd sure p go) (ls+2)=true then X (fN (nrH kd sure p go) (ls+2) 0) else G (ls+2))) (exN (nrH kd sure p go) (ls+2)) fA) (il_no0 (n+3)) (blkE_ok (noBT_ok _ _) b109 (fun x hx=>?_)) (noRT_ok _ _) ?_
   · refine hl.trans ?_
     rcases Tr.ite_some hx with ⟨hc,hx⟩ | ⟨hc,hx⟩
     · rw[← Tr.ok_some hx,hc];simp only[Res.st,hints_eq];rfl
     · rw[← Tr.ok_some hx,hc];simp only[Res.st,hints_eq];rfl
   · refine Tr.all_reqP ⟨rfl,rfl⟩ (Tr.all_ite (fun _=>Tr.all_ok ⟨rfl,rfl⟩) (fun _=>Tr.all_ok ⟨rfl,rfl⟩))
 · have hr:=rd110q R n tk w ls ld zs zd sz kd p sure hG hp hls j hj
   have ej:addI .i64 ((j:Int)-2) (Int.ofNat 1)=((j+1:Nat):Int)-2:=by rw[addI_eq,show Int.ofNat 1=1 from rfl,wr_64 (by omega) (by omega)];omega
   have hd:nrH kd sure p go j=(hlK kd sure p ((j:Int)-2) && !go j):=rfl
   rw[← hd] at hr
   refine ex_all (t109nq (n+3) tk w ls ld zs zd sz kd _ (lv110 R [(0,.loop (recNq tk w ls ld zs zd sz kd p sure (nrH kd sure p go j)))]::(if nrH kd sure p go j=true then X j else G (j+1))) ((j:Int)-2) (!nrH kd sure p go j)) (rdE_ok (il_no0 (n+3)) (fun x hx=>by rw[← Tr.ok_some hx];exact hr)) (noBT_ok _ _) (noRT_ok _ _) ?_
   rw[ej]
   cases nrH kd sure p go j
   · repeat' first | (refine Tr.all_ite (fun hc=>?_) (fun hc=>?_)<;>(try simp (disch:=omega) only[nV,nW] at hc)<;>try omega) | (refine Tr.all_req ?_ ?_;· (try simp (disch:=omega) only[nV,nW]);try omega) | (refine Tr.all_reqP ?_ ?_;· first | exact trivial | rfl | exact ⟨rfl,rfl⟩ | exact ⟨rfl,rfl,rfl⟩ | (simp (disch:=omega) only[nV,nW];done) | ((try simp (disch:=omega) only[nV,nW]);omega)) | fail
     refine Tr.all_ok ?_
     rw[if_neg (by simp)]
     exact ⟨rfl,rfl⟩
   · repeat' first | (refine Tr.all_ite (fun hc=>?_) (fun hc=>?_)<;>(try simp (disch:=omega) only[nV,nW] at hc)<;>try omega) | (refine Tr.all_req ?_ ?_;· (try simp (disch:=omega) only[nV,nW]);try omega) | (refine Tr.all_reqP ?_ ?_;· first | exact trivial | rfl | exact ⟨rfl,rfl⟩ | exact ⟨rfl,rfl,rfl⟩ | (simp (disch:=omega) only[nV,nW];done) | ((try simp (disch:=omega) only[nV,nW]);omega)) | fail
     refine Tr.all_ok ?_
     rw[if_pos rfl]
     rfl
 · obtain ⟨x,h1,rfl⟩:=ex_all (f:=109) (nt:=18) (Q:=fun x=>x=(.exit 0,frNq tk w ls ld zs zd sz kd (((ls+2:Nat):Int)-2)++[(11,.bool false)],lv0::lv110 R [(0,.loop (rec110q tk w ls ld zs zd sz kd p sure))]::G (ls+2))) (t109neq (n+3) tk w ls ld zs zd sz kd (lv110 R [(0,.loop (rec110q tk w ls ld zs zd sz kd p sure))]::G (ls+2)) (((ls+2:Nat):Int)-2)) (il_no0 (n+3)) (noBT_ok _ _) (noRT_ok _ _) (by
    repeat' first | (refine Tr.all_ite (fun hc=>?_) (fun hc=>?_)<;>(try simp (disch:=omega) only[nV,nW] at hc)<;>try omega) | (refine Tr.all_req ?_ ?_;· (try simp (disch:=omega) only[nV,nW]);try omega) | (refine Tr.all_reqP ?_ ?_;· first | exact trivial | rfl | exact ⟨rfl,rfl⟩ | exact ⟨rfl,rfl,rfl⟩ | (simp (disch:=omega) only[nV,nW];done) | ((try simp (disch:=omega) only[nV,nW]);omega)) | fail
    exact Tr.all_ok rfl)
   exact h1
theorem rg110q {G X:Nat→Heap} {go:Nat→Bool} (hG:NearR R n ls kd p sure G X go) (hp:-2≤p∧p<10) (hls:ls≤10):exec (cxD (n+4) 110 29) (.rangeFunc (.tmp 16) #[17] (part Try.f110 [1,1,1,0,0]) (part Try.f110 [1,1,1,0,1])) (fr110q tk w ls ld zs zd sz kd p sure) (lv110 R []::G 0) =
 some (cond (exN (nrH kd sure p go) (ls+2)) Ex.ret Ex.normal,fr110q tk w ls ld zs zd sz kd p sure,lv110 R [(0,.dead)]::(if exN (nrH kd sure p go) (ls+2)=true then X (fN (nrH kd sure p go) (ls+2) 0) else G (ls+2))):=by
 have hc:=c109nq R n tk w ls ld zs zd sz kd p sure hG hp hls
 cases ha:exN (nrH kd sure p go) (ls+2) with
 | true =>
   rw[ha] at hc
   exact range_of (cx:=cxD (n+4) 110 29) (l:=recNq tk w ls ld zs zd sz kd p sure true) (f:=.tmp 16) (ps:=#[17]) (fr:=fr110q tk w ls ld zs zd sz kd p sure) (H:=lv110 R []::G 0) (g:=109) (a:=[]) (b:=[.ptrT (some 0) (.G [tabR (tk+2) w ls ld zs zd sz kd]) 0]) rfl rfl rfl hc rfl rfl rfl
 | false =>
   rw[ha] at hc
   exact range_of (cx:=cxD (n+4) 110 29) (l:=recNq tk w ls ld zs zd sz kd p sure false) (f:=.tmp 16) (ps:=#[17]) (fr:=fr110q tk w ls ld zs zd sz kd p sure) (H:=lv110 R []::G 0) (g:=109) (a:=[]) (b:=[.ptrT (some 0) (.G [tabR (tk+2) w ls ld zs zd sz kd]) 0]) rfl rfl rfl hc rfl rfl rfl
theorem c110q {G X:Nat→Heap} {go:Nat→Bool} (hG:NearR R n ls kd p sure G X go) (hp:-2≤p∧p<ls) (hls:ls≤10):cd (n+5) (.fn 110) (.yld 0 R::capsQ tk w ls ld zs zd sz kd p sure) (G 0) =
 some (.tup [],if exN (nrH kd sure p go) (ls+2)=true then X (fN (nrH kd sure p go) (ls+2) 0) else G (ls+2)):=by
 refine fn_all (n:=n+4) Try.func110 rfl rfl rfl (u110q R n tk w ls ld zs zd sz kd (G 0) (if exN (nrH kd sure p go) (ls+2)=true then X (fN (nrH kd sure p go) (ls+2) 0) else G (ls+2)) p sure (exN (nrH kd sure p go) (ls+2))) (il_no (n+3) 1) (noBT_ok _ _) (rgE_ok (noRT_ok _ _) (fun f ps a b _ hm x hx=>?_)) ?_
 · rw[r110o] at hm
   simp only[List.mem_cons,Prod.mk.injEq,List.not_mem_nil,or_false] at hm
   obtain ⟨rfl,rfl,rfl,rfl⟩:=hm
   refine (rg110q R n tk w ls ld zs zd sz kd p sure hG (by omega) hls).trans ?_
   rcases Tr.ite_some hx with ⟨hc,hx⟩ | ⟨hc,hx⟩
   · rw[← Tr.ok_some hx,hc];simp only[Res.st,hints_eq];rfl
   · rw[← Tr.ok_some hx,hc];simp only[Res.st,hints_eq];rfl
 · have e1:addI .i64 p (Int.ofNat 2)=p+2:=by rw[addI_eq,show Int.ofNat 2=2 from rfl];exact wr_64 (by omega) (by omega)
   have e2:subO (idO 4 (p+2) 12) 4=(p+2).toNat*12:=by rw[subO_eq,idO_eq];omega
   rw[e1,e2]
   refine Tr.all_req (by rw[inI_eq];simp;omega) (Tr.all_req (by rw[inO_eq,idO_eq];simp;omega) (Tr.all_ite (fun hc=>?_) (fun hc=>?_)))
   · have h0:∀ j,j<ls+2→hlK kd sure p ((j:Int)-2)=false:=fun j hj=>by
      have:=(alleq_t _ _ _).1 hc j (by omega)
      rw[shO_fn] at this
      dsimp only at this
      unfold hlK
      rw[show ((j:Int)-2+2).toNat=j by omega,this,decide_eq_false_iff_not]
      cases sure<;>decide
     have hn:exN (nrH kd sure p go) (ls+2)=false:=by
      cases hq:exN (nrH kd sure p go) (ls+2) with
      | false=>rfl
      | true =>
        obtain ⟨j,hj,h1⟩:=(exN_iff _ _).1 hq
        unfold nrH at h1
        rw[h0 j hj] at h1;cases h1
     have hs:∀ j,j≤ls+2→G j=G 0:=fun j=>by
      induction j with
      | zero=>intro _;rfl
      | succ j ih=>intro hj;rw[hG.skip j (by omega) (h0 j (by omega)),ih (by omega)]
     rw[hn,if_neg (by simp),hs _ (Nat.le_refl _)]
     exact Tr.all_ok ⟨rfl,rfl⟩
   · refine Tr.all_reqP ⟨rfl,rfl⟩ (Tr.all_ite (fun _=>Tr.all_ok ⟨rfl,rfl⟩) (fun _=>Tr.all_ok ⟨rfl,rfl⟩))
end
end Go.Eng
end
section
namespace Go.Eng
open Go.Proofs
set_option linter.unusedVariables false
set_option linter.unusedSimpArgs false
set_option maxRecDepth 100000
noncomputable def lvO (w:Int) (ls ld:Nat) (zs zd sz kd:Nat→Int) (sure:Bool) (hS:Int→Bool) (gS:Int→Int) (cS:Nat) (hW:Int→Bool) (gW:Int→Int) (cW:Nat) (s left:Int) (rest:List (Nat×Blk)):Lvl:=lv80_7 w ls ld zs zd sz kd sure hS gS cS hW gW cW s ((0,.row (.I .i64 [left]))::rest)
noncomputable def lv103q (x:Int) (rest:List (Nat×Blk)):Lvl:=⟨false,(0,.row (.G [.fn (.func 105) [] [.ptr 1 3 0 0,.ptr 1 8 0 0]]))::(0,.row (.I .i64 [x]))::rest⟩
noncomputable def fr103q (w:Int) (ls ld:Nat) (zs zd sz kd:Nat→Int) (a:Int) (sure:Bool):Frm:=[(3,.ptr 0 0 0 0),(4,.ptr 0 1 0 0),(6,.fn (.func 110) [] (capsQ 1 w ls ld zs zd sz kd a sure))]
noncomputable def fr103Z (w:Int) (ls ld:Nat) (zs zd sz kd:Nat→Int) (a:Int) (sure:Bool) (q:Int):Frm:=[(3,.ptr 4 0 0 0),(4,.ptr 4 1 0 0),(6,.fn (.func 110) [] [.ptrT (some 5) (.G [tabR 1 w ls ld zs zd sz kd]) 0,.ptrT none (.I .i64 [a]) 0,.ptrT (some 5) (.G [.bool sure]) 0]),(7,.int .i64 q)]
noncomputable def fr103Y (q:Int):Frm:=[(3,.ptr 4 0 0 0),(4,.ptr 4 1 0 0),(5,.int .i64 q)]
noncomputable def cx103q (n:Nat):Cx:=⟨Try.prog,cd n,100000,103,12,Kt.kt 103,some (4,2)⟩
noncomputable def fAs:Code:=part Try.f103 [1,0,1,0,0]
noncomputable def fBd:Code:=part Try.f103 [1,0,1,0,1]
def g105 (Q:Int) (b:Bool):List AV→Option (Prop×AV)
 | [.int .i64 q,.ptr 5 3 0 0,.ptr 5 8 0 0]=>some (q=Q,.bool b)
 | _=>none
theorem u105 (n:Nat) (w:Int) (ls ld:Nat) (zs zd sz kd:Nat→Int) (H:Heap) (q:Int) (sure:Bool) (hS:Int→Bool) (gS:Int→Int) (cS:Nat) (hW:Int→Bool) (gW:Int→Int) (cW:Nat) (s left x:Int) (L0:ALoop) (B:Blk) (rest:List (Nat×Blk)):bodyT Try.prog (cd n) 100000 105 Try.f105 (Kt.kt 105) (il noCt n 0) noBT noRT [(.int .i64 q,none),(.ptr 5 3 0 0,none),(.ptr 5 8 0 0,none)] (lv0::lv0::lv0::lv110 2 [(0,.loop L0)]::lv103q x [(0,B)]::lvO w ls ld zs zd sz kd sure hS gS cS hW gW cW s left rest::H) =
 (fun (Z0:Lvl)=>((fun (Z1:Lvl)=>Tr.ite (hS q) (Tr.ok ((AV.bool (eqI (gS q) left),none),lv0::lv0::lv0::{ lock:=false,bs:=[(0,Blk.row (Row.G [AV.yld 1 2])),(0,Blk.loop L0)] } :: Z1::Z0::H)) (Tr.ok ((AV.bool false,some 1),lv0::lv0::lv0::{ lock:=false,bs:=[(0,Blk.row (Row.G [AV.yld 1 2])),(0,Blk.loop L0)] } :: Z1::Z0::H))) { lock:=false,bs:=[(0,Blk.row (Row.G [AV.fn (Fn.func 105) [] [AV.ptr 1 3 0 0,AV.ptr 1 8 0 0]])),(0,Blk.row (Row.I .i64 [x])),(0,B)] })) { lock:=false,bs:=(0,Blk.row (Row.G [tabR 1 w ls ld zs zd sz kd]))::(0,Blk.row (Row.G [AV.bool sure]))::(0,Blk.fmap hS gS cS)::(0,Blk.row (Row.G [AV.map 0 2]))::(0,Blk.fmap hW gW cW)::(0,Blk.row (Row.G [AV.map 0 4]))::(0,Blk.row (Row.I .i64 [Int.ofNat 0]))::(0,Blk.row (Row.I .i64 [s]))::(0,Blk.row (Row.I .i64 [left]))::rest }:=by kernel_rfl
theorem t103B (n:Nat) (G:Heap) (q x:Int) (b:Bool) (L0:ALoop) (B:Blk):execT (cx103q (n+1)) (il (ctH noCt 105 (lv0::lv0::lv0::lv110 2 [(0,.loop L0)]::lv103q x [(0,B)]::G) (g105 q b)) (n+1) 0) noBT noRT fBd (hints (fr103Y q)) (lv0::lv0::lv0::lv110 2 [(0,.loop L0)]::lv103q x [(0,B)]::G) =
 (fun (Z0:Lvl)=>((fun (Z1:Lvl)=>Tr.reqP (q=q∧lv0::lv0::lv0::Z1::Z0::G=lv0::lv0::lv0::Z1::Z0::G) (Tr.ite b (Tr.ok (Ex.ret,[],lv0::lv0::lv0::Z1::{ lock:=false,bs:=[(0,Blk.row (Row.G [AV.fn (Fn.func 105) [] [AV.ptr 1 3 0 0,AV.ptr 1 8 0 0]])),(0,Blk.row (Row.I .i64 [q])),(0,B)] } :: G)) (Tr.ok (Ex.normal,[(4,AV.ptr 4 1 0 0,none),(5,AV.int .i64 q,none),(10,AV.bool false,some 1)],lv0::lv0::lv0::Z1::Z0::G)))) { lock:=false,bs:=[(0,Blk.row (Row.G [AV.yld 1 2])),(0,Blk.loop L0)] })) { lock:=false,bs:=[(0,Blk.row (Row.G [AV.fn (Fn.func 105) [] [AV.ptr 1 3 0 0,AV.ptr 1 8 0 0]])),(0,Blk.row (Row.I .i64 [x])),(0,B)] }:=by kernel_rfl
theorem u103q (n:Nat) (w:Int) (ls ld:Nat) (zs zd sz kd:Nat→Int) (H:Heap) (a v:Int) (sure e:Bool) (hS:Int→Bool) (gS:Int→Int) (cS:Nat) (hW:Int→Bool) (gW:Int→Int) (cW:Nat) (s left:Int) (rest:List (Nat×Blk)):bodyT Try.prog (cd (n+6)) 100000 103 Try.f103 (Kt.kt 103) (il noCt (n+6) 0) noBT (rgE noRT (fun _=>true) (fr103q w ls ld zs zd sz kd a sure) (lv103q 0 []::lvO w ls ld zs zd sz kd sure hS gS cS hW gW cW s left rest::H) (.ite e (.ok (.ret,hints (fr103q w ls ld zs zd sz kd a sure),lv103q v [(0,.dead)]::lvO w ls ld zs zd sz kd sure hS gS cS hW gW cW s left rest::H)) (.ok (.normal,hints (fr103q w ls ld zs zd sz kd a sure),lv103q 0 [(0,.dead)]::lvO w ls ld zs zd sz kd sure hS gS cS hW gW cW s left rest::H)))) [(.fn (.func 110) [] (capsN 1 w ls ld zs zd sz kd a sure),none),(.fn (.func 105) [] [.ptr 0 3 0 0,.ptr 0 8 0 0],none)] (lvO w ls ld zs zd sz kd sure hS gS cS hW gW cW s left rest::H) =
 (fun (Z0:Lvl)=>((fun (Z1:Frm)=>((fun (Z2:Lvl)=>Tr.reqP (Z1=Z1∧Z2::Z0::H=Z2::Z0::H) (Tr.ite e (Tr.ok ((AV.int .i64 v,none),Z0::H)) (Tr.ok ((AV.int .i64 (Int.negSucc 2),none),Z0::H)))) { lock:=false,bs:=[(0,Blk.row (Row.G [AV.fn (Fn.func 105) [] [AV.ptr 1 3 0 0,AV.ptr 1 8 0 0]])),(0,Blk.row (Row.I .i64 [Int.ofNat 0]))] })) [(3,AV.ptr 0 0 0 0),(4,AV.ptr 0 1 0 0),(6,AV.fn (Fn.func 110) [] [AV.ptrT (some 1) (Row.G [tabR 1 w ls ld zs zd sz kd]) 0,AV.ptrT none (Row.I .i64 [a]) 0,AV.ptrT (some 1) (Row.G [AV.bool sure]) 0])])) { lock:=false,bs:=(0,Blk.row (Row.G [tabR 1 w ls ld zs zd sz kd]))::(0,Blk.row (Row.G [AV.bool sure]))::(0,Blk.fmap hS gS cS)::(0,Blk.row (Row.G [AV.map 0 2]))::(0,Blk.fmap hW gW cW)::(0,Blk.row (Row.G [AV.map 0 4]))::(0,Blk.row (Row.I .i64 [Int.ofNat 0]))::(0,Blk.row (Row.I .i64 [s]))::(0,Blk.row (Row.I .i64 [left]))::rest }:=by kernel_rfl
noncomputable def wGo (S:WS) (left q:Int):Bool:=S.hS q && decide (S.gS q=left)
noncomputable def lvOW (w:Int) (ls ld:Nat) (zs zd sz kd:Nat→Int) (sure:Bool) (S:WS) (s left:Int) (rest:List (Nat×Blk)):Lvl:=lvO w ls ld zs zd sz kd sure S.hS S.gS S.cS S.hW S.gW S.cW s left rest
noncomputable def rec103q (w:Int) (ls ld:Nat) (zs zd sz kd:Nat→Int) (a:Int) (sure:Bool):ALoop:={ state:=.ready,pending:=none,fn:=103,nt:=12,fr:=fr103q w ls ld zs zd sz kd a sure,params:=[7],assign:=fAs,body:=fBd }
noncomputable def rec103d (w:Int) (ls ld:Nat) (zs zd sz kd:Nat→Int) (a:Int) (sure:Bool):ALoop:={ rec103q w ls ld zs zd sz kd a sure with state:=.done,pending:=some .ret }
noncomputable def wFs (kd:Nat→Int) (sure:Bool) (ls:Nat) (S:WS) (left a:Int):Int:=if exN (nrH kd sure a (fun j=>!wGo S left ((j:Int)-2))) (ls+2)=true then ((fN (nrH kd sure a (fun j=>!wGo S left ((j:Int)-2))) (ls+2) 0:Nat):Int)-2 else -3
section
variable (n:Nat) (w:Int) (ls ld:Nat) (zs zd sz kd:Nat→Int) (H:Heap) (a s left x:Int) (sure:Bool) (S:WS) (rest:List (Nat×Blk))
theorem c105 (q:Int) (L0:ALoop) (B:Blk):cd (n+1) (.fn 105) [.int .i64 q,.ptr 5 3 0 0,.ptr 5 8 0 0] (lv0::lv0::lv0::lv110 2 [(0,.loop L0)]::lv103q x [(0,B)]::lvOW w ls ld zs zd sz kd sure S s left rest::H) =
 some (.bool (wGo S left q),lv0::lv0::lv0::lv110 2 [(0,.loop L0)]::lv103q x [(0,B)]::lvOW w ls ld zs zd sz kd sure S s left rest::H):=by
 refine fn_all (n:=n) Try.func105 rfl rfl rfl (u105 n w ls ld zs zd sz kd H q sure S.hS S.gS S.cS S.hW S.gW S.cW s left x L0 B rest) (il_no0 n) (noBT_ok _ _) (noRT_ok _ _) ?_
 unfold wGo
 repeat' first | (refine Tr.all_ite (fun hc=>?_) (fun hc=>?_)<;>(try simp (disch:=omega) only[nV,nW] at hc)<;>try omega) | (refine Tr.all_req ?_ ?_;· (try simp (disch:=omega) only[nV,nW]);try omega) | (refine Tr.all_reqP ?_ ?_;· first | exact trivial | rfl | exact ⟨rfl,rfl⟩ | exact ⟨rfl,rfl,rfl⟩ | (simp (disch:=omega) only[nV,nW];done) | ((try simp (disch:=omega) only[nV,nW]);omega)) | fail
 all_goals refine Tr.all_ok ⟨?_,rfl⟩
 · rw[hc,eqI_dec];rfl
 · have:S.hS q=false:=by simpa using hc
   rw[this];rfl
theorem as103q (q:Int) (L0:Lvl) (G:Heap):exec (cx103q n) fAs (fr103Z w ls ld zs zd sz kd a sure q) (lv0::lv0::lv0::L0::G)=some (.normal,fr103Y q,lv0::lv0::lv0::L0::G):=by
 have e:execT (cx103q n) (il noCt n 0) noBT noRT fAs (hints (fr103Z w ls ld zs zd sz kd a sure q)) (lv0::lv0::lv0::L0::G)=.ok (.normal,hints (fr103Y q),lv0::lv0::lv0::L0::G):=by kernel_rfl
 have:=execT_ok (cx:=cx103q n) (il_no0 n) fAs (noBT_ok _ _) (noRT_ok _ _) (hints (fr103Z w ls ld zs zd sz kd a sure q)) (lv0::lv0::lv0::L0::G) _ (by rw[e];rfl)
 rw[hints_eq] at this
 simp only[Res.st,hints_eq] at this
 exact this
theorem bd103q (q:Int) (L0:ALoop) (B:Blk):∃ fr',exec (cx103q (n+1)) fBd (fr103Y q) (lv0::lv0::lv0::lv110 2 [(0,.loop L0)]::lv103q x [(0,B)]::lvOW w ls ld zs zd sz kd sure S s left rest::H)=some (cond (wGo S left q) Ex.ret Ex.normal,fr',lv0::lv0::lv0::lv110 2 [(0,.loop L0)]::lv103q (cond (wGo S left q) q x) [(0,B)]::lvOW w ls ld zs zd sz kd sure S s left rest::H):=by
 have key:(execT (cx103q (n+1)) (il (ctH noCt 105 (lv0::lv0::lv0::lv110 2 [(0,.loop L0)]::lv103q x [(0,B)]::lvOW w ls ld zs zd sz kd sure S s left rest::H) (g105 q (wGo S left q))) (n+1) 0) noBT noRT fBd (hints (fr103Y q)) (lv0::lv0::lv0::lv110 2 [(0,.loop L0)]::lv103q x [(0,B)]::lvOW w ls ld zs zd sz kd sure S s left rest::H)).all fun y=>y.1=cond (wGo S left q) Ex.ret Ex.normal∧y.2.2=lv0::lv0::lv0::lv110 2 [(0,.loop L0)]::lv103q (cond (wGo S left q) q x) [(0,B)]::lvOW w ls ld zs zd sz kd sure S s left rest::H:=by
  rw[t103B]
  repeat' first | (refine Tr.all_ite (fun hc=>?_) (fun hc=>?_)<;>(try simp (disch:=omega) only[nV,nW] at hc)<;>try omega) | (refine Tr.all_req ?_ ?_;· (try simp (disch:=omega) only[nV,nW]);try omega) | (refine Tr.all_reqP ?_ ?_;· first | exact trivial | rfl | exact ⟨rfl,rfl⟩ | exact ⟨rfl,rfl,rfl⟩ | (simp (disch:=omega) only[nV,nW];done) | ((try simp (disch:=omega) only[nV,nW]);omega)) | fail
  all_goals refine Tr.all_ok ?_
  all_goals rw[hc];exact ⟨rfl,rfl⟩
 obtain ⟨y,h1,h3,h4⟩:=key
 have:=execT_ok (cx:=cx103q (n+1)) (il_ok _ (n+1) 0 (fun k=>ctH_ok (noCt_ok _) (fun args p v hg hp=>by
  unfold g105 at hg
  split at hg
  · simp only[nP] at hg
    obtain ⟨rfl,rfl⟩:=hg
    obtain rfl:=hp
    rw[show n+1+k=n+k+1 by omega]
    exact c105 _ w ls ld zs zd sz kd H s left x sure S rest _ L0 B
  · cases hg))) fBd (noBT_ok _ _) (noRT_ok _ _) _ _ _ h1
 rw[hints_eq] at this
 refine ⟨strip y.2.1,this.trans ?_⟩
 obtain ⟨e,f,g⟩:=y
 dsimp only at h3 h4
 subst h3;subst h4
 rfl
theorem near103:NearR 2 n ls kd a sure (fun _=>lv103q 0 [(0,.loop (rec103q w ls ld zs zd sz kd a sure))]::lvOW w ls ld zs zd sz kd sure S s left rest::H) (fun j=>lv103q ((j:Int)-2) [(0,.loop (rec103d w ls ld zs zd sz kd a sure))]::lvOW w ls ld zs zd sz kd sure S s left rest::H) (fun j=>!wGo S left ((j:Int)-2)) where
 hit:=fun j hj hh L0=>by
  obtain ⟨fr',h2⟩:=bd103q n w ls ld zs zd sz kd H s left 0 sure S rest ((j:Int)-2) L0 (.loop { rec103q w ls ld zs zd sz kd a sure with state:=.busy })
  have ha:=as103q (n+1) w ls ld zs zd sz kd a sure ((j:Int)-2) (lv110 2 [(0,.loop L0)]) (lv103q 0 [(0,.loop (rec103q w ls ld zs zd sz kd a sure))]::lvOW w ls ld zs zd sz kd sure S s left rest::H)
  cases hi:wGo S left ((j:Int)-2) with
  | true =>
    rw[hi] at h2
    exact round_of (P:=Try.prog) (ora:=oraD) (KT:=Kt.kt) (fu:=100000) (n:=n+1) (d:=3) (i:=2) (args:=[.int .i64 ((j:Int)-2)]) (H:=lv0::lv0::lv110 2 [(0,.loop L0)]::lv103q 0 [(0,.loop (rec103q w ls ld zs zd sz kd a sure))]::lvOW w ls ld zs zd sz kd sure S s left rest::H) (l:=rec103q w ls ld zs zd sz kd a sure) (l1:=rec103q w ls ld zs zd sz kd a sure) (l2:={ rec103q w ls ld zs zd sz kd a sure with state:=.busy }) (fr:=fr103Z w ls ld zs zd sz kd a sure ((j:Int)-2)) rfl rfl rfl rfl ha rfl rfl h2 rfl
  | false =>
    rw[hi] at h2
    exact round_of (P:=Try.prog) (ora:=oraD) (KT:=Kt.kt) (fu:=100000) (n:=n+1) (d:=3) (i:=2) (args:=[.int .i64 ((j:Int)-2)]) (H:=lv0::lv0::lv110 2 [(0,.loop L0)]::lv103q 0 [(0,.loop (rec103q w ls ld zs zd sz kd a sure))]::lvOW w ls ld zs zd sz kd sure S s left rest::H) (l:=rec103q w ls ld zs zd sz kd a sure) (l1:=rec103q w ls ld zs zd sz kd a sure) (l2:={ rec103q w ls ld zs zd sz kd a sure with state:=.busy }) (fr:=fr103Z w ls ld zs zd sz kd a sure ((j:Int)-2)) rfl rfl rfl rfl ha rfl rfl h2 rfl
 skip:=fun j hj hh=>rfl
theorem rg103q (hls:ls≤10) (ha:-2≤a∧a<ls) (b:Bool) (hb:exN (nrH kd sure a (fun j=>!wGo S left ((j:Int)-2))) (ls+2)=b):exec (cxD (n+6) 103 12) (.rangeFunc (.tmp 6) #[7] fAs fBd) (fr103q w ls ld zs zd sz kd a sure) (lv103q 0 []::lvOW w ls ld zs zd sz kd sure S s left rest::H) =
 some (cond b Ex.ret Ex.normal,fr103q w ls ld zs zd sz kd a sure,lv103q (cond b (((fN (nrH kd sure a (fun j=>!wGo S left ((j:Int)-2))) (ls+2) 0:Nat):Int)-2) 0) [(0,.dead)]::lvOW w ls ld zs zd sz kd sure S s left rest::H):=by
 have hn:=c110q 2 (n+1) 1 w ls ld zs zd sz kd a sure (near103 (n+1) w ls ld zs zd sz kd H a s left sure S rest) ha hls
 rw[hb] at hn
 generalize fN (nrH kd sure a (fun j=>!wGo S left ((j:Int)-2))) (ls+2) 0=N at *
 cases b with
 | true =>
   rw[if_pos rfl] at hn
   exact range_of (cx:=cxD (n+6) 103 12) (l:=rec103d w ls ld zs zd sz kd a sure) (f:=.tmp 6) (ps:=#[7]) (fr:=fr103q w ls ld zs zd sz kd a sure) (H:=lv103q 0 []::lvOW w ls ld zs zd sz kd sure S s left rest::H) (g:=110) (a:=[]) (b:=capsQ 1 w ls ld zs zd sz kd a sure) (e:=.ret) rfl rfl rfl hn rfl rfl rfl
 | false =>
   rw[if_neg (by simp)] at hn
   exact range_of (cx:=cxD (n+6) 103 12) (l:=rec103q w ls ld zs zd sz kd a sure) (f:=.tmp 6) (ps:=#[7]) (fr:=fr103q w ls ld zs zd sz kd a sure) (H:=lv103q 0 []::lvOW w ls ld zs zd sz kd sure S s left rest::H) (g:=110) (a:=[]) (b:=capsQ 1 w ls ld zs zd sz kd a sure) (e:=.normal) rfl rfl rfl hn rfl rfl rfl
theorem r103q:rangesOf (bodyOf Try.f103)=[(.tmp 6,#[7],fAs,fBd)]:=by kernel_rfl
theorem c103q (hls:ls≤10) (ha:-2≤a∧a<ls):cd (n+7) (.fn 103) [.fn (.func 110) [] (capsN 1 w ls ld zs zd sz kd a sure),.fn (.func 105) [] [.ptr 0 3 0 0,.ptr 0 8 0 0]] (lvOW w ls ld zs zd sz kd sure S s left rest::H) =
 some (.int .i64 (wFs kd sure ls S left a),lvOW w ls ld zs zd sz kd sure S s left rest::H):=by
 have hr:=rg103q n w ls ld zs zd sz kd H a s left sure S rest hls ha _ rfl
 unfold wFs
 generalize exN (nrH kd sure a (fun j=>!wGo S left ((j:Int)-2))) (ls+2)=b at *
 generalize ((fN (nrH kd sure a (fun j=>!wGo S left ((j:Int)-2))) (ls+2) 0:Nat):Int)-2=v at *
 refine fn_all (n:=n+6) Try.func103 rfl rfl rfl (u103q n w ls ld zs zd sz kd H a v sure b S.hS S.gS S.cS S.hW S.gW S.cW s left rest) (il_no (n+6) 0) (noBT_ok _ _) (rgE_ok (noRT_ok _ _) (fun f ps c d _ hm y hy=>?_)) ?_
 · rw[r103q] at hm
   simp only[List.mem_cons,Prod.mk.injEq,List.not_mem_nil,or_false] at hm
   obtain ⟨rfl,rfl,rfl,rfl⟩:=hm
   refine hr.trans ?_
   rcases Tr.ite_some hy with ⟨hc,hy⟩ | ⟨hc,hy⟩
   · rw[← Tr.ok_some hy,hc];simp only[Res.st,hints_eq];rfl
   · rw[← Tr.ok_some hy,hc];simp only[Res.st,hints_eq];rfl
 · repeat' first | (refine Tr.all_ite (fun hc=>?_) (fun hc=>?_)<;>(try simp (disch:=omega) only[nV,nW] at hc)<;>try omega) | (refine Tr.all_req ?_ ?_;· (try simp (disch:=omega) only[nV,nW]);try omega) | (refine Tr.all_reqP ?_ ?_;· first | exact trivial | rfl | exact ⟨rfl,rfl⟩ | exact ⟨rfl,rfl,rfl⟩ | (simp (disch:=omega) only[nV,nW];done) | ((try simp (disch:=omega) only[nV,nW]);omega)) | fail
   all_goals refine Tr.all_ok ⟨?_,rfl⟩
   all_goals rw[hc];rfl
end
end Go.Eng
end
