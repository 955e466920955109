/- Drop: First. -/
import Derived.Test.YtjmjkhpfipglcaaV8DrMx13
section
namespace Go.Eng
open Go.Proofs
set_option linter.unusedVariables false
set_option linter.unusedSimpArgs false
set_option maxRecDepth 100000
section
variable (n:Nat) (w:Int) (ls ld:Nat) (zs zd:Nat→Int) (H:Heap) (p q:Int)
end
end Go.Eng
end
section
namespace Go.Eng
open Go.Proofs
set_option linter.unusedVariables false
set_option linter.unusedSimpArgs false
set_option maxRecDepth 100000
noncomputable def tabR (k:Nat) (w:Int) (ls ld:Nat) (zs zd sz kd:Nat→Int):AV:=.ptrT (some k) (.M [.one (.int .i64 w),.one (slA 2 ls zs),.one (slA 3 ld zd),.one (.slcT none (.M [.arr .i64 sz (mulO ls 2)]) 2 ls true),.arr .i64 kd 144]) 0
section
variable (n:Nat) (w:Int) (ls ld:Nat) (zs zd sz kd:Nat→Int) (H:Heap) (s more:Int)
end
end Go.Eng
end
section
namespace Go.Eng
open Go.Proofs
set_option linter.unusedVariables false
set_option linter.unusedSimpArgs false
set_option maxRecDepth 100000
noncomputable def rdN (base:CallTr) (d0 i0:Nat) (args0:List AV) (H0:Heap) (u:Tr (AV×Heap)):CallTr:=fun tgt args H=>match tgt with
 | .round d i=>cond (Nat.beq d d0) (.reqP (i=i0∧avs args=args0∧H=H0) (u.bind fun y=>.ok ((y.1,none),y.2))) .bad
 | .fn g=>base (.fn g) args H
 | .mode=>base .mode args H
noncomputable def capsN (tk:Nat) (w:Int) (ls ld:Nat) (zs zd sz kd:Nat→Int) (p:Int) (sure:Bool):List AV:=[.ptrT (some 0) (.G [tabR tk w ls ld zs zd sz kd]) 0,.ptrT none (.I .i64 [p]) 0,.ptrT (some 0) (.G [.bool sure]) 0]
noncomputable def fr110 (tk:Nat) (w:Int) (ls ld:Nat) (zs zd sz kd:Nat→Int) (p:Int) (sure:Bool):Frm:=[(1,.ptrT (some 1) (.G [tabR tk w ls ld zs zd sz kd]) 0),(2,.ptrT none (.I .i64 [p]) 0),(3,.ptrT (some 1) (.G [.bool sure]) 0),(4,.ptr 0 0 0 0),(16,.fn (.func 109) [] [.ptrT (some 0) (.G [tabR (tk+1) w ls ld zs zd sz kd]) 0])]
noncomputable def lv110 (r:Nat) (rest:List (Nat×Blk)):Lvl:=⟨false,(0,.row (.G [.yld 1 r]))::rest⟩
noncomputable def cx110 (n:Nat):Cx:=⟨Try.prog,cd n,100000,110,29,Kt.kt 110,some (2,1)⟩
noncomputable def frX (tk:Nat) (w:Int) (ls ld:Nat) (zs zd sz kd:Nat→Int) (p:Int) (sure:Bool) (q:Int):Frm:=[(1,.ptrT (some 3) (.G [tabR tk w ls ld zs zd sz kd]) 0),(2,.ptrT none (.I .i64 [p]) 0),(3,.ptrT (some 3) (.G [.bool sure]) 0),(4,.ptr 2 0 0 0),(16,.fn (.func 109) [] [.ptrT (some 2) (.G [tabR (tk+1) w ls ld zs zd sz kd]) 0]),(17,.int .i64 q)]
noncomputable def frY (tk:Nat) (w:Int) (ls ld:Nat) (zs zd sz kd:Nat→Int) (p:Int) (sure:Bool) (q:Int):Frm:=[(1,.ptrT (some 3) (.G [tabR tk w ls ld zs zd sz kd]) 0),(2,.ptrT none (.I .i64 [p]) 0),(3,.ptrT (some 3) (.G [.bool sure]) 0),(4,.ptr 2 0 0 0),(5,.int .i64 q)]
noncomputable def frN (tk:Nat) (w:Int) (ls ld:Nat) (zs zd sz kd:Nat→Int) (q:Int):Frm:=[(0,.yld 1 1),(1,.ptrT (some 1) (.G [tabR (tk+1) w ls ld zs zd sz kd]) 0),(3,.int .i64 q)]
theorem rdN_ok {base:CallTr} {call:CallT} (h:base.Ok call) {d0 i0:Nat} {args0:List AV} {H0:Heap} {u:Tr (AV×Heap)} (k:∀ x,u.run=some x→call (.round d0 i0) args0 H0=some x):(rdN base d0 i0 args0 H0 u).Ok call:=by
 refine ⟨h.1,fun tgt args H x hx=>?_⟩
 cases tgt with
 | fn g=>exact h.2 _ _ _ _ hx
 | mode=>exact h.2 _ _ _ _ hx
 | round d i =>
   unfold rdN at hx
   obtain ⟨hc,hx2⟩:=Tr.cond_bad hx
   clear hx
   have e1:=Nat.eq_of_beq_eq_true hc
   subst e1
   obtain ⟨⟨e2,e3,e4⟩,hx3⟩:=Tr.reqP_some hx2
   obtain ⟨y,h1,h2⟩:=Tr.bind_some hx3
   rw[e2,e3,e4,k _ h1,← Tr.ok_some h2]
theorem t110a (n:Nat) (tk:Nat) (w:Int) (ls ld:Nat) (zs zd sz kd:Nat→Int) (G:Heap) (p q:Int) (sure:Bool):execT (cx110 n) (il noCt n 0) noBT noRT (part Try.f110 [1,1,1,0,0]) (hints (frX tk w ls ld zs zd sz kd p sure q)) (lv0::lv0::G) =
 Tr.ok (Ex.normal,[(1,AV.ptrT (some 3) (Row.G [tabR tk w ls ld zs zd sz kd]) 0,none),(2,AV.ptrT none (Row.I .i64 [p]) 0,none),(3,AV.ptrT (some 3) (Row.G [AV.bool sure]) 0,none),(4,AV.ptr 2 0 0 0,none),(5,AV.int .i64 q,none)],lv0::lv0::G):=by kernel_rfl
theorem t109n (n:Nat) (tk:Nat) (w:Int) (ls ld:Nat) (zs zd sz kd:Nat→Int) (G G':Heap) (q:Int) (b:Bool):execT (cxD n 109 18) (rdE (il noCt n 0) 1 1 [.int .i64 q] (lv0::G) (.ok (.bool b,lv0::G'))) noBT noRT (part Try.f109 [1,0,0]) (hints (frN tk w ls ld zs zd sz kd q)) (lv0::G) =
 (fun (Z0:Nat×AV×Option Nat)=>Tr.ite (ltI q (Int.ofNat ls)) (Tr.reqP ([AV.int .i64 q]=[AV.int .i64 q]∧lv0::G=lv0::G) (Tr.ite (notB b) (Tr.ok (Ex.ret,[(0,AV.yld 1 1,none),Z0,(3,AV.int .i64 q,none),(17,AV.bool true,some 1)],lv0::G')) (Tr.ok (Ex.normal,[(0,AV.yld 1 1,none),Z0,(3,AV.int .i64 (addI .i64 q (Int.ofNat 1)),none)],lv0::G')))) (Tr.ok (Ex.exit 0,[(0,AV.yld 1 1,none),Z0,(3,AV.int .i64 q,none),(11,AV.bool false,some 1)],lv0::G))) (1,AV.ptrT (some 1) (Row.G [AV.ptrT (some (Nat.succ tk)) (Row.M [Seg.one (AV.int .i64 w),Seg.one (slA 2 ls zs),Seg.one (slA 3 ld zd),Seg.one (.slcT none (.M [.arr .i64 sz (mulO ls 2)]) 2 ls true),Seg.arr .i64 kd 144]) 0]) 0,none):=by kernel_rfl
theorem t109ne (n:Nat) (tk:Nat) (w:Int) (ls ld:Nat) (zs zd sz kd:Nat→Int) (G:Heap) (q:Int):execT (cxD n 109 18) (il noCt n 0) noBT noRT (part Try.f109 [1,0,0]) (hints (frN tk w ls ld zs zd sz kd q)) (lv0::G) =
 Tr.ite (ltI q (Int.ofNat ls)) Tr.bad (Tr.ok (Ex.exit 0,[(0,AV.yld 1 1,none),(1,AV.ptrT (some 1) (Row.G [AV.ptrT (some (Nat.succ tk)) (Row.M [Seg.one (AV.int .i64 w),Seg.one (slA 2 ls zs),Seg.one (slA 3 ld zd),Seg.one (.slcT none (.M [.arr .i64 sz (mulO ls 2)]) 2 ls true),Seg.arr .i64 kd 144]) 0]) 0,none),(3,AV.int .i64 q,none),(11,AV.bool false,some 1)],lv0::G)):=by kernel_rfl
theorem u109n (n:Nat) (tk:Nat) (w:Int) (ls ld:Nat) (zs zd sz kd:Nat→Int) (G G1:Heap) (e:Bool) (fA:Frm):bodyT Try.prog (cd n) 100000 109 Try.f109 (Kt.kt 109) (il noCt n 0) (blkE noBT 0 (frN tk w ls ld zs zd sz kd (-2)) (lv0::G) (.ite e (.ok (.ret,hints fA,lv0::G1)) (.ok (.normal,hints fA,lv0::G1)))) noRT [(.yld 0 1,none),(.ptrT (some 0) (.G [tabR (tk+1) w ls ld zs zd sz kd]) 0,none)] G =
 (fun (Z0:Frm)=>Tr.reqP (Z0=Z0∧lv0::G=lv0::G) (Tr.ite e (Tr.ok ((AV.tup [],none),G1)) (Tr.ok ((AV.tup [],none),G1)))) [(0,AV.yld 1 1),(1,AV.ptrT (some 1) (Row.G [AV.ptrT (some (Nat.succ tk)) (Row.M [Seg.one (AV.int .i64 w),Seg.one (slA 2 ls zs),Seg.one (slA 3 ld zd),Seg.one (.slcT none (.M [.arr .i64 sz (mulO ls 2)]) 2 ls true),Seg.arr .i64 kd 144]) 0]) 0),(3,AV.int .i64 (Int.negSucc 1))]:=by kernel_rfl
def hlK (kd:Nat→Int) (sure:Bool) (p q:Int):Bool:=decide ((if sure then 2 else 1)≤kd ((p+2).toNat*12+(q+2).toNat))
noncomputable def rec110 (tk:Nat) (w:Int) (ls ld:Nat) (zs zd sz kd:Nat→Int) (p:Int) (sure:Bool):ALoop:={ state:=.ready,pending:=none,fn:=110,nt:=29,fr:=fr110 tk w ls ld zs zd sz kd p sure,params:=[17],assign:=part Try.f110 [1,1,1,0,0],body:=part Try.f110 [1,1,1,0,1] }
noncomputable def recN (tk:Nat) (w:Int) (ls ld:Nat) (zs zd sz kd:Nat→Int) (p:Int) (sure b:Bool):ALoop:=cond b { rec110 tk w ls ld zs zd sz kd p sure with state:=.done,pending:=some .ret } (rec110 tk w ls ld zs zd sz kd p sure)
theorem alleq_t (z y:Nat→Int) (n:Nat):alleqO z y n=true↔∀ j,j<n→z j=y j:=by
 rw[alleqO_fn]
 induction n with
 | zero=>simp[allEq]
 | succ n ih =>
   simp only[allEq,Bool.and_eq_true,beq_iff_eq,ih]
   constructor
   · rintro ⟨h1,h2⟩ j hj
     by_cases e:j=n
     · subst e;exact h2
     · exact h1 j (by omega)
   · exact fun h=>⟨fun j hj=>h j (by omega),h n (by omega)⟩
theorem r110o:rangesOf (bodyOf Try.f110)=[(.tmp 16,#[17],part Try.f110 [1,1,1,0,0],part Try.f110 [1,1,1,0,1])]:=by kernel_rfl
theorem t110c (R n:Nat) (tk:Nat) (w:Int) (ls ld:Nat) (zs zd sz kd:Nat→Int) (G:Heap) (p q:Int) (sure:Bool) (L:ALoop):execT (cx110 (n+2)) (il noCt n 2) noBT noRT (part Try.f110 [1,1,1,0,1]) (hints (frY tk w ls ld zs zd sz kd p sure q)) (lv0::lv0::lv110 R [(0,.loop L)]::G) =
 Tr.ite sure (Tr.req (inI (addI .i64 p (Int.ofNat 2)) 12) (Tr.req (inI (addI .i64 q (Int.ofNat 2)) 12) (Tr.req (inO (idO (idO 4 (addI .i64 p (Int.ofNat 2)) 12) (addI .i64 q (Int.ofNat 2)) 1) 1 4 144) (Tr.ite (leI (Int.ofNat 2) (kd (subO (idO (idO 4 (addI .i64 p (Int.ofNat 2)) 12) (addI .i64 q (Int.ofNat 2)) 1) 4))) Tr.bad (Tr.ok (Ex.normal,[(28,AV.bool false,some 1)],lv0::lv0::{ lock:=false,bs:=[(0,Blk.row (Row.G [AV.yld 1 R])),(0,Blk.loop L)] } :: G)))))) (Tr.req (inI (addI .i64 p (Int.ofNat 2)) 12) (Tr.req (inI (addI .i64 q (Int.ofNat 2)) 12) (Tr.req (inO (idO (idO 4 (addI .i64 p (Int.ofNat 2)) 12) (addI .i64 q (Int.ofNat 2)) 1) 1 4 144) (Tr.ite (leI (Int.ofNat 1) (kd (subO (idO (idO 4 (addI .i64 p (Int.ofNat 2)) 12) (addI .i64 q (Int.ofNat 2)) 1) 4))) Tr.bad (Tr.ok (Ex.normal,[(28,AV.bool false,some 1)],lv0::lv0::{ lock:=false,bs:=[(0,Blk.row (Row.G [AV.yld 1 R])),(0,Blk.loop L)] } :: G)))))):=by kernel_rfl
theorem t110b (R n:Nat) (tk:Nat) (w:Int) (ls ld:Nat) (zs zd sz kd:Nat→Int) (G G':Heap) (p q:Int) (sure b:Bool) (L L':ALoop):execT (cx110 (n+2)) (rdN (il noCt n 2) 3 R [.int .i64 q] (lv0::lv0::lv110 R [(0,.loop L)]::G) (.ok (.bool b,lv0::lv0::lv110 R [(0,.loop L')]::G'))) noBT noRT (part Try.f110 [1,1,1,0,1]) (hints (frY tk w ls ld zs zd sz kd p sure q)) (lv0::lv0::lv110 R [(0,.loop L)]::G) =
 (fun (Z0:Lvl)=>((fun (Z1:Lvl)=>Tr.ite sure (Tr.req (inI (addI .i64 p (Int.ofNat 2)) 12) (Tr.req (inI (addI .i64 q (Int.ofNat 2)) 12) (Tr.req (inO (idO (idO 4 (addI .i64 p (Int.ofNat 2)) 12) (addI .i64 q (Int.ofNat 2)) 1) 1 4 144) (Tr.ite (leI (Int.ofNat 2) (kd (subO (idO (idO 4 (addI .i64 p (Int.ofNat 2)) 12) (addI .i64 q (Int.ofNat 2)) 1) 4))) (Tr.reqP (R=R∧[AV.int .i64 q]=[AV.int .i64 q]∧lv0::lv0::Z0::G=lv0::lv0::Z0::G) (Tr.ite (notB b) (Tr.ok (Ex.ret,[(28,AV.bool true,some 1)],lv0::lv0::Z1::G')) (Tr.ok (Ex.normal,[(28,AV.bool false,some 1)],lv0::lv0::Z1::G')))) (Tr.ok (Ex.normal,[(28,AV.bool false,some 1)],lv0::lv0::Z0::G)))))) (Tr.req (inI (addI .i64 p (Int.ofNat 2)) 12) (Tr.req (inI (addI .i64 q (Int.ofNat 2)) 12) (Tr.req (inO (idO (idO 4 (addI .i64 p (Int.ofNat 2)) 12) (addI .i64 q (Int.ofNat 2)) 1) 1 4 144) (Tr.ite (leI (Int.ofNat 1) (kd (subO (idO (idO 4 (addI .i64 p (Int.ofNat 2)) 12) (addI .i64 q (Int.ofNat 2)) 1) 4))) (Tr.reqP (R=R∧[AV.int .i64 q]=[AV.int .i64 q]∧lv0::lv0::Z0::G=lv0::lv0::Z0::G) (Tr.ite (notB b) (Tr.ok (Ex.ret,[(28,AV.bool true,some 1)],lv0::lv0::Z1::G')) (Tr.ok (Ex.normal,[(28,AV.bool false,some 1)],lv0::lv0::Z1::G')))) (Tr.ok (Ex.normal,[(28,AV.bool false,some 1)],lv0::lv0::Z0::G))))))) { lock:=false,bs:=[(0,Blk.row (Row.G [AV.yld 1 R])),(0,Blk.loop L')] })) { lock:=false,bs:=[(0,Blk.row (Row.G [AV.yld 1 R])),(0,Blk.loop L)] }:=by kernel_rfl
theorem u110 (R n:Nat) (tk:Nat) (w:Int) (ls ld:Nat) (zs zd sz kd:Nat→Int) (G G1:Heap) (p:Int) (sure e:Bool):bodyT Try.prog (cd (n+4)) 100000 110 Try.f110 (Kt.kt 110) (il noCt (n+3) 1) noBT (rgE noRT (fun _=>true) (fr110 tk w ls ld zs zd sz kd p sure) (lv110 R []::G) (.ite e (.ok (.ret,hints (fr110 tk w ls ld zs zd sz kd p sure),lv110 R [(0,.dead)]::G1)) (.ok (.normal,hints (fr110 tk w ls ld zs zd sz kd p sure),lv110 R [(0,.dead)]::G1)))) [(.yld 0 R,none),(.ptrT (some 0) (.G [tabR tk w ls ld zs zd sz kd]) 0,none),(.ptrT none (.I .i64 [p]) 0,none),(.ptrT (some 0) (.G [.bool sure]) 0,none)] G =
 (fun (Z0:Frm)=>Tr.req (inI (addI .i64 p (Int.ofNat 2)) 12) (Tr.req (inO (idO 4 (addI .i64 p (Int.ofNat 2)) 12) 12 4 144) (Tr.ite (alleqO (shO kd (subO (idO 4 (addI .i64 p (Int.ofNat 2)) 12) 4)) (fun x=>Int.ofNat 0) 12) (Tr.ok ((AV.tup [],none),G)) (Tr.reqP (Z0=Z0∧{ lock:=false,bs:=[(0,Blk.row (Row.G [AV.yld 1 R]))] } :: G={ lock:=false,bs:=[(0,Blk.row (Row.G [AV.yld 1 R]))] } :: G) (Tr.ite e (Tr.ok ((AV.tup [],none),G1)) (Tr.ok ((AV.tup [],none),G1))))))) [(1,AV.ptrT (some 1) (Row.G [tabR tk w ls ld zs zd sz kd]) 0),(2,AV.ptrT none (Row.I .i64 [p]) 0),(3,AV.ptrT (some 1) (Row.G [AV.bool sure]) 0),(4,AV.ptr 0 0 0 0),(16,AV.fn (Fn.func 109) [] [AV.ptrT (some 0) (Row.G [AV.ptrT (some (Nat.succ tk)) (Row.M [Seg.one (AV.int .i64 w),Seg.one (slA 2 ls zs),Seg.one (slA 3 ld zd),Seg.one (.slcT none (.M [.arr .i64 sz (mulO ls 2)]) 2 ls true),Seg.arr .i64 kd 144]) 0]) 0])]:=by kernel_rfl
section
variable (R n:Nat) (tk:Nat) (w:Int) (ls ld:Nat) (zs zd sz kd:Nat→Int) (p:Int) (sure:Bool)
structure NearR (R n ls:Nat) (kd:Nat→Int) (p:Int) (sure:Bool) (G X:Nat→Heap) (go:Nat→Bool):Prop where
 hit:∀ j,j<ls+2→hlK kd sure p ((j:Int)-2)=true→∀ L:ALoop,cd (n+2) (.round 3 R) [.int .i64 ((j:Int)-2)] (lv0::lv0::lv110 R [(0,.loop L)]::G j)=some (.bool (go j),lv0::lv0::lv110 R [(0,.loop L)]::(if go j=true then G (j+1) else X j))
 skip:∀ j,j<ls+2→hlK kd sure p ((j:Int)-2)=false→G (j+1)=G j
theorem rd110 {G X:Nat→Heap} {go:Nat→Bool} (hG:NearR R n ls kd p sure G X go) (hp:-2≤p∧p<10) (hls:ls≤10) (j:Nat) (hj:j<ls+2):cd (n+3) (.round 1 1) [.int .i64 ((j:Int)-2)] (lv0::lv110 R [(0,.loop (rec110 tk w ls ld zs zd sz kd p sure))]::G j) =
 some (.bool (!(hlK kd sure p ((j:Int)-2) && !go j)),lv0::lv110 R [(0,.loop (recN tk w ls ld zs zd sz kd p sure (hlK kd sure p ((j:Int)-2) && !go j)))]::(if (hlK kd sure p ((j:Int)-2) && !go j)=true then X j else G (j+1))):=by
 have ha:exec (cx110 (n+2)) (part Try.f110 [1,1,1,0,0]) (frX tk w ls ld zs zd sz kd p sure ((j:Int)-2)) (lv0::lv0::lv110 R [(0,.loop (rec110 tk w ls ld zs zd sz kd p sure))]::G j)=some (.normal,frY tk w ls ld zs zd sz kd p sure ((j:Int)-2),lv0::lv0::lv110 R [(0,.loop (rec110 tk w ls ld zs zd sz kd p sure))]::G j):=by
  have:=execT_ok (cx:=cx110 (n+2)) (il_no0 (n+2)) (part Try.f110 [1,1,1,0,0]) (noBT_ok _ _) (noRT_ok _ _) (hints (frX tk w ls ld zs zd sz kd p sure ((j:Int)-2))) (lv0::lv0::lv110 R [(0,.loop (rec110 tk w ls ld zs zd sz kd p sure))]::G j) _ (by rw[t110a];rfl)
  rw[hints_eq] at this
  exact this
 have h2:∀ L:ALoop,∃ fr',exec (cx110 (n+2)) (part Try.f110 [1,1,1,0,1]) (frY tk w ls ld zs zd sz kd p sure ((j:Int)-2)) (lv0::lv0::lv110 R [(0,.loop L)]::G j)=some (cond (hlK kd sure p ((j:Int)-2) && !go j) Ex.ret Ex.normal,fr',lv0::lv0::lv110 R [(0,.loop L)]::(if (hlK kd sure p ((j:Int)-2) && !go j)=true then X j else G (j+1))):=by
  intro L
  have e1:addI .i64 p (Int.ofNat 2)=p+2:=by rw[addI_eq,show Int.ofNat 2=2 from rfl];exact wr_64 (by omega) (by omega)
  have e2:addI .i64 ((j:Int)-2) (Int.ofNat 2)=(j:Int):=by rw[addI_eq,show Int.ofNat 2=2 from rfl,wr_64 (by omega) (by omega)];omega
  have ei:subO (idO (idO 4 (p+2) 12) (j:Int) 1) 4=(p+2).toNat*12+j:=by rw[subO_eq,idO_eq,idO_eq];simp;omega
  have eh:hlK kd sure p ((j:Int)-2)=decide ((if sure then 2 else 1)≤kd ((p+2).toNat*12+j)):=by unfold hlK;rw[show ((j:Int)-2+2).toNat=j by omega]
  cases hh:hlK kd sure p ((j:Int)-2) with
  | true =>
    have key:(execT (cx110 (n+2)) (rdN (il noCt n 2) 3 R [.int .i64 ((j:Int)-2)] (lv0::lv0::lv110 R [(0,.loop L)]::G j) (.ok (.bool (go j),lv0::lv0::lv110 R [(0,.loop L)]::(if go j=true then G (j+1) else X j)))) noBT noRT (part Try.f110 [1,1,1,0,1]) (hints (frY tk w ls ld zs zd sz kd p sure ((j:Int)-2))) (lv0::lv0::lv110 R [(0,.loop L)]::G j)).all fun x=>x.1=cond (true && !go j) Ex.ret Ex.normal∧x.2.2=lv0::lv0::lv110 R [(0,.loop L)]::(if (true && !go j)=true then X j else G (j+1)):=by
     rw[t110b,e1,e2,ei]
     rw[eh,decide_eq_true_eq] at hh
     cases sure<;>simp only[Bool.false_eq_true,if_true,if_false] at hh<;>cases hgo:go j<;>repeat' first | (refine Tr.all_ite (fun hc=>?_) (fun hc=>?_)<;>(try simp (disch:=omega) only[nV,nW] at hc)<;>try omega) | (refine Tr.all_req ?_ ?_;· (try simp (disch:=omega) only[nV,nW]);try omega) | (refine Tr.all_reqP ?_ ?_;· first | exact trivial | rfl | exact ⟨rfl,rfl⟩ | exact ⟨rfl,rfl,rfl⟩ | (simp (disch:=omega) only[nV,nW];done) | ((try simp (disch:=omega) only[nV,nW]);omega)) | fail
     all_goals exact Tr.all_ok ⟨rfl,rfl⟩
    obtain ⟨x,h1,h3,h4⟩:=key
    have:=execT_ok (cx:=cx110 (n+2)) (rdN_ok (il_no n 2) (fun x hx=>by rw[← Tr.ok_some hx];exact hG.hit j hj hh L)) _ (noBT_ok _ _) (noRT_ok _ _) _ _ _ h1
    rw[hints_eq] at this
    refine ⟨strip x.2.1,this.trans ?_⟩
    obtain ⟨e,f,g⟩:=x
    dsimp only at h3 h4
    subst h3;subst h4
    rfl
  | false =>
    have key:(execT (cx110 (n+2)) (il noCt n 2) noBT noRT (part Try.f110 [1,1,1,0,1]) (hints (frY tk w ls ld zs zd sz kd p sure ((j:Int)-2))) (lv0::lv0::lv110 R [(0,.loop L)]::G j)).all fun x=>x.1=Ex.normal∧x.2.2=lv0::lv0::lv110 R [(0,.loop L)]::G (j+1):=by
     rw[t110c,e1,e2,ei,hG.skip j hj hh]
     rw[eh,decide_eq_false_iff_not] at hh
     cases sure<;>simp only[Bool.false_eq_true,if_true,if_false] at hh<;>repeat' first | (refine Tr.all_ite (fun hc=>?_) (fun hc=>?_)<;>(try simp (disch:=omega) only[nV,nW] at hc)<;>try omega) | (refine Tr.all_req ?_ ?_;· (try simp (disch:=omega) only[nV,nW]);try omega) | (refine Tr.all_reqP ?_ ?_;· first | exact trivial | rfl | exact ⟨rfl,rfl⟩ | exact ⟨rfl,rfl,rfl⟩ | (simp (disch:=omega) only[nV,nW];done) | ((try simp (disch:=omega) only[nV,nW]);omega)) | fail
     all_goals exact Tr.all_ok ⟨rfl,rfl⟩
    obtain ⟨x,h1,h3,h4⟩:=key
    have:=execT_ok (cx:=cx110 (n+2)) (il_no n 2) _ (noBT_ok _ _) (noRT_ok _ _) _ _ _ h1
    rw[hints_eq] at this
    refine ⟨strip x.2.1,this.trans ?_⟩
    obtain ⟨e,f,g⟩:=x
    dsimp only at h3 h4
    subst h3;subst h4
    rfl
 obtain ⟨fr',h2⟩:=h2 { rec110 tk w ls ld zs zd sz kd p sure with state:=.busy }
 have key:=round_of (P:=Try.prog) (ora:=oraD) (KT:=Kt.kt) (fu:=100000) (n:=n+2) (d:=1) (i:=1) (args:=[.int .i64 ((j:Int)-2)]) (H:=lv0::lv110 R [(0,.loop (rec110 tk w ls ld zs zd sz kd p sure))]::G j) (l:=rec110 tk w ls ld zs zd sz kd p sure) (l1:=rec110 tk w ls ld zs zd sz kd p sure) (l2:={ rec110 tk w ls ld zs zd sz kd p sure with state:=.busy }) (fr:=frX tk w ls ld zs zd sz kd p sure ((j:Int)-2)) rfl rfl rfl rfl ha rfl rfl h2 rfl
 refine key.trans ?_
 cases (hlK kd sure p ((j:Int)-2) && !go j)<;>rfl
def nrH (kd:Nat→Int) (sure:Bool) (p:Int) (go:Nat→Bool) (j:Nat):Bool:=hlK kd sure p ((j:Int)-2) && !go j
theorem c109n {G X:Nat→Heap} {go:Nat→Bool} (hG:NearR R n ls kd p sure G X go) (hp:-2≤p∧p<10) (hls:ls≤10):cd (n+4) (.fn 109) [.yld 0 1,.ptrT (some 0) (.G [tabR (tk+1) w ls ld zs zd sz kd]) 0] (lv110 R [(0,.loop (rec110 tk w ls ld zs zd sz kd p sure))]::G 0) =
 some (.tup [],lv110 R [(0,.loop (recN tk w ls ld zs zd sz kd p sure (exN (nrH kd sure p go) (ls+2))))]::(if exN (nrH kd sure p go) (ls+2)=true then X (fN (nrH kd sure p go) (ls+2) 0) else G (ls+2))):=by
 have l:=findX (n:=n+3) (f:=109) (nt:=18) (c:=part Try.f109 [1,0,0]) 0 (fun j=>frN tk w ls ld zs zd sz kd ((j:Int)-2)) (fun j=>lv0::lv110 R [(0,.loop (rec110 tk w ls ld zs zd sz kd p sure))]::G j) (ls+2) (nrH kd sure p go)
  (fun j=>(frN tk w ls ld zs zd sz kd ((j:Int)-2)++[(17,.bool true)],lv0::lv110 R [(0,.loop (recN tk w ls ld zs zd sz kd p sure true))]::X j))
  (frN tk w ls ld zs zd sz kd (((ls+2:Nat):Int)-2)++[(11,.bool false)],lv0::lv110 R [(0,.loop (rec110 tk w ls ld zs zd sz kd p sure))]::G (ls+2)) (by omega) (fun j hj=>?_) ?_
 · have hb:∃ fA,exec (cxD (n+3) 109 18) (.block 0 (.loop (part Try.f109 [1,0,0]))) (frN tk w ls ld zs zd sz kd (-2)) (lv0::lv110 R [(0,.loop (rec110 tk w ls ld zs zd sz kd p sure))]::G 0)=some (cond (exN (nrH kd sure p go) (ls+2)) Ex.ret Ex.normal,fA,lv0::lv110 R [(0,.loop (recN tk w ls ld zs zd sz kd p sure (exN (nrH kd sure p go) (ls+2))))]::(if exN (nrH kd sure p go) (ls+2)=true then X (fN (nrH kd sure p go) (ls+2) 0) else G (ls+2))):=by
    cases hc:exN (nrH kd sure p go) (ls+2) with
    | true=>rw[hc] at l;exact ⟨_,l⟩
    | false=>rw[hc] at l;exact ⟨_,l⟩
   obtain ⟨fA,hl⟩:=hb
   refine fn_all (n:=n+3) Try.func109 rfl rfl rfl (u109n (n+3) tk w ls ld zs zd sz kd _ (lv110 R [(0,.loop (recN tk w ls ld zs zd sz kd p sure (exN (nrH kd sure p go) (ls+2))))]::(if exN (nrH kd sure p go) (ls+2)=true then X (fN (nrH kd sure p go) (ls+2) 0) else G (ls+2))) (exN (nrH kd sure p go) (ls+2)) fA) (il_no0 (n+3)) (blkE_ok (noBT_ok _ _) b109 (fun x hx=>?_)) (noRT_ok _ _) ?_
   · refine hl.trans ?_
     rcases Tr.ite_some hx with ⟨hc,hx⟩ | ⟨hc,hx⟩
     · rw[← Tr.ok_some hx,hc];simp only[Res.st,hints_eq];rfl
     · rw[← Tr.ok_some hx,hc];simp only[Res.st,hints_eq];rfl
   · refine Tr.all_reqP ⟨rfl,rfl⟩ (Tr.all_ite (fun _=>Tr.all_ok ⟨rfl,rfl⟩) (fun _=>Tr.all_ok ⟨rfl,rfl⟩))
 · have hr:=rd110 R n tk w ls ld zs zd sz kd p sure hG hp hls j hj
   have ej:addI .i64 ((j:Int)-2) (Int.ofNat 1)=((j+1:Nat):Int)-2:=by rw[addI_eq,show Int.ofNat 1=1 from rfl,wr_64 (by omega) (by omega)];omega
   have hd:nrH kd sure p go j=(hlK kd sure p ((j:Int)-2) && !go j):=rfl
   rw[← hd] at hr
   refine ex_all (t109n (n+3) tk w ls ld zs zd sz kd _ (lv110 R [(0,.loop (recN tk w ls ld zs zd sz kd p sure (nrH kd sure p go j)))]::(if nrH kd sure p go j=true then X j else G (j+1))) ((j:Int)-2) (!nrH kd sure p go j)) (rdE_ok (il_no0 (n+3)) (fun x hx=>by rw[← Tr.ok_some hx];exact hr)) (noBT_ok _ _) (noRT_ok _ _) ?_
   rw[ej]
   cases nrH kd sure p go j
   · repeat' first | (refine Tr.all_ite (fun hc=>?_) (fun hc=>?_)<;>(try simp (disch:=omega) only[nV,nW] at hc)<;>try omega) | (refine Tr.all_req ?_ ?_;· (try simp (disch:=omega) only[nV,nW]);try omega) | (refine Tr.all_reqP ?_ ?_;· first | exact trivial | rfl | exact ⟨rfl,rfl⟩ | exact ⟨rfl,rfl,rfl⟩ | (simp (disch:=omega) only[nV,nW];done) | ((try simp (disch:=omega) only[nV,nW]);omega)) | fail
     refine Tr.all_ok ?_
     rw[if_neg (by simp)]
     exact ⟨rfl,rfl⟩
   · repeat' first | (refine Tr.all_ite (fun hc=>?_) (fun hc=>?_)<;>(try simp (disch:=omega) only[nV,nW] at hc)<;>try omega) | (refine Tr.all_req ?_ ?_;· (try simp (disch:=omega) only[nV,nW]);try omega) | (refine Tr.all_reqP ?_ ?_;· first | exact trivial | rfl | exact ⟨rfl,rfl⟩ | exact ⟨rfl,rfl,rfl⟩ | (simp (disch:=omega) only[nV,nW];done) | ((try simp (disch:=omega) only[nV,nW]);omega)) | fail
     refine Tr.all_ok ?_
     rw[if_pos rfl]
     rfl
 · obtain ⟨x,h1,rfl⟩:=ex_all (f:=109) (nt:=18) (Q:=fun x=>x=(.exit 0,frN tk w ls ld zs zd sz kd (((ls+2:Nat):Int)-2)++[(11,.bool false)],lv0::lv110 R [(0,.loop (rec110 tk w ls ld zs zd sz kd p sure))]::G (ls+2))) (t109ne (n+3) tk w ls ld zs zd sz kd (lv110 R [(0,.loop (rec110 tk w ls ld zs zd sz kd p sure))]::G (ls+2)) (((ls+2:Nat):Int)-2)) (il_no0 (n+3)) (noBT_ok _ _) (noRT_ok _ _) (by
    repeat' first | (refine Tr.all_ite (fun hc=>?_) (fun hc=>?_)<;>(try simp (disch:=omega) only[nV,nW] at hc)<;>try omega) | (refine Tr.all_req ?_ ?_;· (try simp (disch:=omega) only[nV,nW]);try omega) | (refine Tr.all_reqP ?_ ?_;· first | exact trivial | rfl | exact ⟨rfl,rfl⟩ | exact ⟨rfl,rfl,rfl⟩ | (simp (disch:=omega) only[nV,nW];done) | ((try simp (disch:=omega) only[nV,nW]);omega)) | fail
    exact Tr.all_ok rfl)
   exact h1
theorem rg110 {G X:Nat→Heap} {go:Nat→Bool} (hG:NearR R n ls kd p sure G X go) (hp:-2≤p∧p<10) (hls:ls≤10):exec (cxD (n+4) 110 29) (.rangeFunc (.tmp 16) #[17] (part Try.f110 [1,1,1,0,0]) (part Try.f110 [1,1,1,0,1])) (fr110 tk w ls ld zs zd sz kd p sure) (lv110 R []::G 0) =
 some (cond (exN (nrH kd sure p go) (ls+2)) Ex.ret Ex.normal,fr110 tk w ls ld zs zd sz kd p sure,lv110 R [(0,.dead)]::(if exN (nrH kd sure p go) (ls+2)=true then X (fN (nrH kd sure p go) (ls+2) 0) else G (ls+2))):=by
 have hc:=c109n R n tk w ls ld zs zd sz kd p sure hG hp hls
 cases ha:exN (nrH kd sure p go) (ls+2) with
 | true =>
   rw[ha] at hc
   exact range_of (cx:=cxD (n+4) 110 29) (l:=recN tk w ls ld zs zd sz kd p sure true) (f:=.tmp 16) (ps:=#[17]) (fr:=fr110 tk w ls ld zs zd sz kd p sure) (H:=lv110 R []::G 0) (g:=109) (a:=[]) (b:=[.ptrT (some 0) (.G [tabR (tk+1) w ls ld zs zd sz kd]) 0]) rfl rfl rfl hc rfl rfl rfl
 | false =>
   rw[ha] at hc
   exact range_of (cx:=cxD (n+4) 110 29) (l:=recN tk w ls ld zs zd sz kd p sure false) (f:=.tmp 16) (ps:=#[17]) (fr:=fr110 tk w ls ld zs zd sz kd p sure) (H:=lv110 R []::G 0) (g:=109) (a:=[]) (b:=[.ptrT (some 0) (.G [tabR (tk+1) w ls ld zs zd sz kd]) 0]) rfl rfl rfl hc rfl rfl rfl
theorem c110 {G X:Nat→Heap} {go:Nat→Bool} (hG:NearR R n ls kd p sure G X go) (hp:-2≤p∧p<ls) (hls:ls≤10):cd (n+5) (.fn 110) (.yld 0 R::capsN tk w ls ld zs zd sz kd p sure) (G 0) =
 some (.tup [],if exN (nrH kd sure p go) (ls+2)=true then X (fN (nrH kd sure p go) (ls+2) 0) else G (ls+2)):=by
 refine fn_all (n:=n+4) Try.func110 rfl rfl rfl (u110 R n tk w ls ld zs zd sz kd (G 0) (if exN (nrH kd sure p go) (ls+2)=true then X (fN (nrH kd sure p go) (ls+2) 0) else G (ls+2)) p sure (exN (nrH kd sure p go) (ls+2))) (il_no (n+3) 1) (noBT_ok _ _) (rgE_ok (noRT_ok _ _) (fun f ps a b _ hm x hx=>?_)) ?_
 · rw[r110o] at hm
   simp only[List.mem_cons,Prod.mk.injEq,List.not_mem_nil,or_false] at hm
   obtain ⟨rfl,rfl,rfl,rfl⟩:=hm
   refine (rg110 R n tk w ls ld zs zd sz kd p sure hG (by omega) hls).trans ?_
   rcases Tr.ite_some hx with ⟨hc,hx⟩ | ⟨hc,hx⟩
   · rw[← Tr.ok_some hx,hc];simp only[Res.st,hints_eq];rfl
   · rw[← Tr.ok_some hx,hc];simp only[Res.st,hints_eq];rfl
 · have e1:addI .i64 p (Int.ofNat 2)=p+2:=by rw[addI_eq,show Int.ofNat 2=2 from rfl];exact wr_64 (by omega) (by omega)
   have e2:subO (idO 4 (p+2) 12) 4=(p+2).toNat*12:=by rw[subO_eq,idO_eq];omega
   rw[e1,e2]
   refine Tr.all_req (by rw[inI_eq];simp;omega) (Tr.all_req (by rw[inO_eq,idO_eq];simp;omega) (Tr.all_ite (fun hc=>?_) (fun hc=>?_)))
   · have h0:∀ j,j<ls+2→hlK kd sure p ((j:Int)-2)=false:=fun j hj=>by
      have:=(alleq_t _ _ _).1 hc j (by omega)
      rw[shO_fn] at this
      dsimp only at this
      unfold hlK
      rw[show ((j:Int)-2+2).toNat=j by omega,this,decide_eq_false_iff_not]
      cases sure<;>decide
     have hn:exN (nrH kd sure p go) (ls+2)=false:=by
      cases hq:exN (nrH kd sure p go) (ls+2) with
      | false=>rfl
      | true =>
        obtain ⟨j,hj,h1⟩:=(exN_iff _ _).1 hq
        unfold nrH at h1
        rw[h0 j hj] at h1;cases h1
     have hs:∀ j,j≤ls+2→G j=G 0:=fun j=>by
      induction j with
      | zero=>intro _;rfl
      | succ j ih=>intro hj;rw[hG.skip j (by omega) (h0 j (by omega)),ih (by omega)]
     rw[hn,if_neg (by simp),hs _ (Nat.le_refl _)]
     exact Tr.all_ok ⟨rfl,rfl⟩
   · refine Tr.all_reqP ⟨rfl,rfl⟩ (Tr.all_ite (fun _=>Tr.all_ok ⟨rfl,rfl⟩) (fun _=>Tr.all_ok ⟨rfl,rfl⟩))
end
end Go.Eng
end
