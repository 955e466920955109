/- Drop: near, of closures that have come one level up. -/
import Derived.Test.YtjmjkhpfipglcaaV7Ke
import Derived.Test.YtjmjkhpfipglcaaV7Wb
section
namespace Go.Eng
open Go.Proofs
set_option linter.unusedVariables false
set_option linter.unusedSimpArgs false
set_option maxRecDepth 100000
noncomputable def y9 (tk:Nat) (w:Int) (ls ld:Nat) (zs zd sz kd:Nat→Int) (p:Int) (sure:Bool):List AV:=[.ptrT (some 1) (.G [a9 tk w ls ld zs zd sz kd]) 0,.ptrT none (.I .i64 [p]) 0,.ptrT (some 1) (.G [.bool sure]) 0]
noncomputable def lr (tk:Nat) (w:Int) (ls ld:Nat) (zs zd sz kd:Nat→Int) (p:Int) (sure:Bool):aO:=[(1,.ptrT (some 2) (.G [a9 tk w ls ld zs zd sz kd]) 0),(2,.ptrT none (.I .i64 [p]) 0),(3,.ptrT (some 2) (.G [.bool sure]) 0),(4,.ptr 0 0 0 0),(16,.fn (.func 109) [] [.ptrT (some 0) (.G [a9 (tk+2) w ls ld zs zd sz kd]) 0])]
noncomputable def Eh (tk:Nat) (w:Int) (ls ld:Nat) (zs zd sz kd:Nat→Int) (p:Int) (sure:Bool) (q:Int):aO:=[(1,.ptrT (some 4) (.G [a9 tk w ls ld zs zd sz kd]) 0),(2,.ptrT none (.I .i64 [p]) 0),(3,.ptrT (some 4) (.G [.bool sure]) 0),(4,.ptr 2 0 0 0),(16,.fn (.func 109) [] [.ptrT (some 2) (.G [a9 (tk+2) w ls ld zs zd sz kd]) 0]),(17,.int .i64 q)]
noncomputable def AR (tk:Nat) (w:Int) (ls ld:Nat) (zs zd sz kd:Nat→Int) (p:Int) (sure:Bool) (q:Int):aO:=[(1,.ptrT (some 4) (.G [a9 tk w ls ld zs zd sz kd]) 0),(2,.ptrT none (.I .i64 [p]) 0),(3,.ptrT (some 4) (.G [.bool sure]) 0),(4,.ptr 2 0 0 0),(5,.int .i64 q)]
noncomputable def we (tk:Nat) (w:Int) (ls ld:Nat) (zs zd sz kd:Nat→Int) (q:Int):aO:=[(0,.yld 1 1),(1,.ptrT (some 1) (.G [a9 (tk+2) w ls ld zs zd sz kd]) 0),(3,.int .i64 q)]
theorem Ia (n:Nat) (tk:Nat) (w:Int) (ls ld:Nat) (zs zd sz kd:Nat→Int) (G:ae) (p q:Int) (sure:Bool):aH (fQ n) (il aG n 0) aJ aK (part Try.f110 [1,1,1,0,0]) (hints (Eh tk w ls ld zs zd sz kd p sure q)) (af::af::G) =
 Tr.ok (Ex.normal,[(1,AV.ptrT (some 4) (Row.G [a9 tk w ls ld zs zd sz kd]) 0,none),(2,AV.ptrT none (Row.I .i64 [p]) 0,none),(3,AV.ptrT (some 4) (Row.G [AV.bool sure]) 0,none),(4,AV.ptr 2 0 0 0,none),(5,AV.int .i64 q,none)],af::af::G):=by kernel_rfl
theorem H8 (n:Nat) (tk:Nat) (w:Int) (ls ld:Nat) (zs zd sz kd:Nat→Int) (G G':ae) (q:Int) (b:Bool):aH (bF n 109 18) (IM (il aG n 0) 1 1 [.int .i64 q] (af::G) (.ok (.bool b,af::G'))) aJ aK (part Try.f109 [1,0,0]) (hints (we tk w ls ld zs zd sz kd q)) (af::G) =
 (fun (Z0:Nat×AV×Option Nat)=>Tr.ite (bA q (Int.ofNat ls)) (Tr.reqP ([AV.int .i64 q]=[AV.int .i64 q]∧af::G=af::G) (Tr.ite (aD b) (Tr.ok (Ex.ret,[(0,AV.yld 1 1,none),Z0,(3,AV.int .i64 q,none),(17,AV.bool true,some 1)],af::G')) (Tr.ok (Ex.normal,[(0,AV.yld 1 1,none),Z0,(3,AV.int .i64 (ay .i64 q (Int.ofNat 1)),none)],af::G')))) (Tr.ok (Ex.exit 0,[(0,AV.yld 1 1,none),Z0,(3,AV.int .i64 q,none),(11,AV.bool false,some 1)],af::G))) (1,AV.ptrT (some 1) (Row.G [AV.ptrT (some (Nat.succ (Nat.succ tk))) (Row.M [aC.one (AV.int .i64 w),aC.one (aU 2 ls zs),aC.one (aU 3 ld zd),aC.one (.slcT none (.M [.arr .i64 sz (aI ls 2)]) 2 ls true),aC.arr .i64 kd 144]) 0]) 0,none):=by kernel_rfl
theorem FK (n:Nat) (tk:Nat) (w:Int) (ls ld:Nat) (zs zd sz kd:Nat→Int) (G:ae) (q:Int):aH (bF n 109 18) (il aG n 0) aJ aK (part Try.f109 [1,0,0]) (hints (we tk w ls ld zs zd sz kd q)) (af::G) =
 Tr.ite (bA q (Int.ofNat ls)) Tr.bad (Tr.ok (Ex.exit 0,[(0,AV.yld 1 1,none),(1,AV.ptrT (some 1) (Row.G [AV.ptrT (some (Nat.succ (Nat.succ tk))) (Row.M [aC.one (AV.int .i64 w),aC.one (aU 2 ls zs),aC.one (aU 3 ld zd),aC.one (.slcT none (.M [.arr .i64 sz (aI ls 2)]) 2 ls true),aC.arr .i64 kd 144]) 0]) 0,none),(3,AV.int .i64 q,none),(11,AV.bool false,some 1)],af::G)):=by kernel_rfl
theorem Iu (n:Nat) (tk:Nat) (w:Int) (ls ld:Nat) (zs zd sz kd:Nat→Int) (G G1:ae) (e:Bool) (fA:aO):aW Try.prog (cd n) 100000 109 Try.f109 (Kt.kt 109) (il aG n 0) (dc aJ 0 (we tk w ls ld zs zd sz kd (-2)) (af::G) (.ite e (.ok (.ret,hints fA,af::G1)) (.ok (.normal,hints fA,af::G1)))) aK [(.yld 0 1,none),(.ptrT (some 0) (.G [a9 (tk+2) w ls ld zs zd sz kd]) 0,none)] G =
 (fun (Z0:aO)=>Tr.reqP (Z0=Z0∧af::G=af::G) (Tr.ite e (Tr.ok ((AV.tup [],none),G1)) (Tr.ok ((AV.tup [],none),G1)))) [(0,AV.yld 1 1),(1,AV.ptrT (some 1) (Row.G [AV.ptrT (some (Nat.succ (Nat.succ tk))) (Row.M [aC.one (AV.int .i64 w),aC.one (aU 2 ls zs),aC.one (aU 3 ld zd),aC.one (.slcT none (.M [.arr .i64 sz (aI ls 2)]) 2 ls true),aC.arr .i64 kd 144]) 0]) 0),(3,AV.int .i64 (Int.negSucc 1))]:=by kernel_rfl
noncomputable def dD (tk:Nat) (w:Int) (ls ld:Nat) (zs zd sz kd:Nat→Int) (p:Int) (sure:Bool):bw:={ state:=.ready,pending:=none,fn:=110,nt:=29,fr:=lr tk w ls ld zs zd sz kd p sure,params:=[17],assign:=part Try.f110 [1,1,1,0,0],body:=part Try.f110 [1,1,1,0,1] }
noncomputable def pY (tk:Nat) (w:Int) (ls ld:Nat) (zs zd sz kd:Nat→Int) (p:Int) (sure b:Bool):bw:=cond b { dD tk w ls ld zs zd sz kd p sure with state:=.done,pending:=some .ret } (dD tk w ls ld zs zd sz kd p sure)
theorem Ic (R n:Nat) (tk:Nat) (w:Int) (ls ld:Nat) (zs zd sz kd:Nat→Int) (G:ae) (p q:Int) (sure:Bool) (L:bw):aH (fQ (n+2)) (il aG n 2) aJ aK (part Try.f110 [1,1,1,0,1]) (hints (AR tk w ls ld zs zd sz kd p sure q)) (af::af::aB R [(0,.loop L)]::G) =
 Tr.ite sure (Tr.req (br (ay .i64 p (Int.ofNat 2)) 12) (Tr.req (br (ay .i64 q (Int.ofNat 2)) 12) (Tr.req (kO (al (al 4 (ay .i64 p (Int.ofNat 2)) 12) (ay .i64 q (Int.ofNat 2)) 1) 1 4 144) (Tr.ite (dA (Int.ofNat 2) (kd (fM (al (al 4 (ay .i64 p (Int.ofNat 2)) 12) (ay .i64 q (Int.ofNat 2)) 1) 4))) Tr.bad (Tr.ok (Ex.normal,[(28,AV.bool false,some 1)],af::af::{ lock:=false,bs:=[(0,aj.row (Row.G [AV.yld 1 R])),(0,aj.loop L)] } :: G)))))) (Tr.req (br (ay .i64 p (Int.ofNat 2)) 12) (Tr.req (br (ay .i64 q (Int.ofNat 2)) 12) (Tr.req (kO (al (al 4 (ay .i64 p (Int.ofNat 2)) 12) (ay .i64 q (Int.ofNat 2)) 1) 1 4 144) (Tr.ite (dA (Int.ofNat 1) (kd (fM (al (al 4 (ay .i64 p (Int.ofNat 2)) 12) (ay .i64 q (Int.ofNat 2)) 1) 4))) Tr.bad (Tr.ok (Ex.normal,[(28,AV.bool false,some 1)],af::af::{ lock:=false,bs:=[(0,aj.row (Row.G [AV.yld 1 R])),(0,aj.loop L)] } :: G)))))):=by kernel_rfl
theorem Ib (R n:Nat) (tk:Nat) (w:Int) (ls ld:Nat) (zs zd sz kd:Nat→Int) (G G':ae) (p q:Int) (sure b:Bool) (L L':bw):aH (fQ (n+2)) (HP (il aG n 2) 3 R [.int .i64 q] (af::af::aB R [(0,.loop L)]::G) (.ok (.bool b,af::af::aB R [(0,.loop L')]::G'))) aJ aK (part Try.f110 [1,1,1,0,1]) (hints (AR tk w ls ld zs zd sz kd p sure q)) (af::af::aB R [(0,.loop L)]::G) =
 (fun (Z0:b6)=>((fun (Z1:b6)=>Tr.ite sure (Tr.req (br (ay .i64 p (Int.ofNat 2)) 12) (Tr.req (br (ay .i64 q (Int.ofNat 2)) 12) (Tr.req (kO (al (al 4 (ay .i64 p (Int.ofNat 2)) 12) (ay .i64 q (Int.ofNat 2)) 1) 1 4 144) (Tr.ite (dA (Int.ofNat 2) (kd (fM (al (al 4 (ay .i64 p (Int.ofNat 2)) 12) (ay .i64 q (Int.ofNat 2)) 1) 4))) (Tr.reqP (R=R∧[AV.int .i64 q]=[AV.int .i64 q]∧af::af::Z0::G=af::af::Z0::G) (Tr.ite (aD b) (Tr.ok (Ex.ret,[(28,AV.bool true,some 1)],af::af::Z1::G')) (Tr.ok (Ex.normal,[(28,AV.bool false,some 1)],af::af::Z1::G')))) (Tr.ok (Ex.normal,[(28,AV.bool false,some 1)],af::af::Z0::G)))))) (Tr.req (br (ay .i64 p (Int.ofNat 2)) 12) (Tr.req (br (ay .i64 q (Int.ofNat 2)) 12) (Tr.req (kO (al (al 4 (ay .i64 p (Int.ofNat 2)) 12) (ay .i64 q (Int.ofNat 2)) 1) 1 4 144) (Tr.ite (dA (Int.ofNat 1) (kd (fM (al (al 4 (ay .i64 p (Int.ofNat 2)) 12) (ay .i64 q (Int.ofNat 2)) 1) 4))) (Tr.reqP (R=R∧[AV.int .i64 q]=[AV.int .i64 q]∧af::af::Z0::G=af::af::Z0::G) (Tr.ite (aD b) (Tr.ok (Ex.ret,[(28,AV.bool true,some 1)],af::af::Z1::G')) (Tr.ok (Ex.normal,[(28,AV.bool false,some 1)],af::af::Z1::G')))) (Tr.ok (Ex.normal,[(28,AV.bool false,some 1)],af::af::Z0::G))))))) { lock:=false,bs:=[(0,aj.row (Row.G [AV.yld 1 R])),(0,aj.loop L')] })) { lock:=false,bs:=[(0,aj.row (Row.G [AV.yld 1 R])),(0,aj.loop L)] }:=by kernel_rfl
theorem Lf (R n:Nat) (tk:Nat) (w:Int) (ls ld:Nat) (zs zd sz kd:Nat→Int) (G G1:ae) (p:Int) (sure e:Bool):aW Try.prog (cd (n+4)) 100000 110 Try.f110 (Kt.kt 110) (il aG (n+3) 1) aJ (th aK (fun _=>true) (lr tk w ls ld zs zd sz kd p sure) (aB R []::G) (.ite e (.ok (.ret,hints (lr tk w ls ld zs zd sz kd p sure),aB R [(0,.dead)]::G1)) (.ok (.normal,hints (lr tk w ls ld zs zd sz kd p sure),aB R [(0,.dead)]::G1)))) [(.yld 0 R,none),(.ptrT (some 1) (.G [a9 tk w ls ld zs zd sz kd]) 0,none),(.ptrT none (.I .i64 [p]) 0,none),(.ptrT (some 1) (.G [.bool sure]) 0,none)] G =
 (fun (Z0:aO)=>Tr.req (br (ay .i64 p (Int.ofNat 2)) 12) (Tr.req (kO (al 4 (ay .i64 p (Int.ofNat 2)) 12) 12 4 144) (Tr.ite (oN (nv kd (fM (al 4 (ay .i64 p (Int.ofNat 2)) 12) 4)) (fun x=>Int.ofNat 0) 12) (Tr.ok ((AV.tup [],none),G)) (Tr.reqP (Z0=Z0∧{ lock:=false,bs:=[(0,aj.row (Row.G [AV.yld 1 R]))] } :: G={ lock:=false,bs:=[(0,aj.row (Row.G [AV.yld 1 R]))] } :: G) (Tr.ite e (Tr.ok ((AV.tup [],none),G1)) (Tr.ok ((AV.tup [],none),G1))))))) [(1,AV.ptrT (some 2) (Row.G [a9 tk w ls ld zs zd sz kd]) 0),(2,AV.ptrT none (Row.I .i64 [p]) 0),(3,AV.ptrT (some 2) (Row.G [AV.bool sure]) 0),(4,AV.ptr 0 0 0 0),(16,AV.fn (Fn.func 109) [] [AV.ptrT (some 0) (Row.G [AV.ptrT (some (Nat.succ (Nat.succ tk))) (Row.M [aC.one (AV.int .i64 w),aC.one (aU 2 ls zs),aC.one (aU 3 ld zd),aC.one (.slcT none (.M [.arr .i64 sz (aI ls 2)]) 2 ls true),aC.arr .i64 kd 144]) 0]) 0])]:=by kernel_rfl
section
variable (R n:Nat) (tk:Nat) (w:Int) (ls ld:Nat) (zs zd sz kd:Nat→Int) (p:Int) (sure:Bool)
theorem HM {G X:Nat→ae} {go:Nat→Bool} (hG:iK R n ls kd p sure G X go) (hp:-2≤p∧p<10) (hls:ls≤10) (j:Nat) (hj:j<ls+2):cd (n+3) (.round 1 1) [.int .i64 ((j:Int)-2)] (af::aB R [(0,.loop (dD tk w ls ld zs zd sz kd p sure))]::G j) =
 some (.bool (!(cG kd sure p ((j:Int)-2) && !go j)),af::aB R [(0,.loop (pY tk w ls ld zs zd sz kd p sure (cG kd sure p ((j:Int)-2) && !go j)))]::(if (cG kd sure p ((j:Int)-2) && !go j)=true then X j else G (j+1))):=by
 have ha:exec (fQ (n+2)) (part Try.f110 [1,1,1,0,0]) (Eh tk w ls ld zs zd sz kd p sure ((j:Int)-2)) (af::af::aB R [(0,.loop (dD tk w ls ld zs zd sz kd p sure))]::G j)=some (.normal,AR tk w ls ld zs zd sz kd p sure ((j:Int)-2),af::af::aB R [(0,.loop (dD tk w ls ld zs zd sz kd p sure))]::G j):=by
  have:=bK (cx:=fQ (n+2)) (bk (n+2)) (part Try.f110 [1,1,1,0,0]) (ah _ _) (ai _ _) (hints (Eh tk w ls ld zs zd sz kd p sure ((j:Int)-2))) (af::af::aB R [(0,.loop (dD tk w ls ld zs zd sz kd p sure))]::G j) _ (by rw[Ia];rfl)
  rw[aw] at this
  exact this
 have h2:∀ L:bw,∃ fr',exec (fQ (n+2)) (part Try.f110 [1,1,1,0,1]) (AR tk w ls ld zs zd sz kd p sure ((j:Int)-2)) (af::af::aB R [(0,.loop L)]::G j)=some (cond (cG kd sure p ((j:Int)-2) && !go j) Ex.ret Ex.normal,fr',af::af::aB R [(0,.loop L)]::(if (cG kd sure p ((j:Int)-2) && !go j)=true then X j else G (j+1))):=by
  intro L
  have e1:ay .i64 p (Int.ofNat 2)=p+2:=by rw[aR,show Int.ofNat 2=2 from rfl];exact bX (by omega) (by omega)
  have e2:ay .i64 ((j:Int)-2) (Int.ofNat 2)=(j:Int):=by rw[aR,show Int.ofNat 2=2 from rfl,bX (by omega) (by omega)];omega
  have ei:fM (al (al 4 (p+2) 12) (j:Int) 1) 4=(p+2).toNat*12+j:=by rw[fh,bT,bT];simp;omega
  have eh:cG kd sure p ((j:Int)-2)=decide ((if sure then 2 else 1)≤kd ((p+2).toNat*12+j)):=by unfold cG;rw[show ((j:Int)-2+2).toNat=j by omega]
  cases hh:cG kd sure p ((j:Int)-2) with
  | true =>
    have key:(aH (fQ (n+2)) (HP (il aG n 2) 3 R [.int .i64 ((j:Int)-2)] (af::af::aB R [(0,.loop L)]::G j) (.ok (.bool (go j),af::af::aB R [(0,.loop L)]::(if go j=true then G (j+1) else X j)))) aJ aK (part Try.f110 [1,1,1,0,1]) (hints (AR tk w ls ld zs zd sz kd p sure ((j:Int)-2))) (af::af::aB R [(0,.loop L)]::G j)).all fun x=>x.1=cond (true && !go j) Ex.ret Ex.normal∧x.2.2=af::af::aB R [(0,.loop L)]::(if (true && !go j)=true then X j else G (j+1)):=by
     rw[Ib,e1,e2,ei]
     rw[eh,decide_eq_true_eq] at hh
     cases sure<;>simp only[Bool.false_eq_true,if_true,if_false] at hh<;>cases hgo:go j<;>repeat' first | (refine Tr.an (fun hc=>?_) (fun hc=>?_)<;>(try simp (disch:=omega) only[nV,nW] at hc)<;>try omega) | (refine Tr.ao ?_ ?_;· (try simp (disch:=omega) only[nV,nW]);try omega) | (refine Tr.ak ?_ ?_;· first | exact trivial | rfl | exact ⟨rfl,rfl⟩ | exact ⟨rfl,rfl,rfl⟩ | (simp (disch:=omega) only[nV,nW];done) | ((try simp (disch:=omega) only[nV,nW]);omega)) | fail
     all_goals exact Tr.aq ⟨rfl,rfl⟩
    obtain ⟨x,h1,h3,h4⟩:=key
    have:=bK (cx:=fQ (n+2)) (yB (bU n 2) (fun x hx=>by rw[← Tr.ab hx];exact hG.hit j hj hh L)) _ (ah _ _) (ai _ _) _ _ _ h1
    rw[aw] at this
    refine ⟨strip x.2.1,this.trans ?_⟩
    obtain ⟨e,f,g⟩:=x
    dsimp only at h3 h4
    subst h3;subst h4
    rfl
  | false =>
    have key:(aH (fQ (n+2)) (il aG n 2) aJ aK (part Try.f110 [1,1,1,0,1]) (hints (AR tk w ls ld zs zd sz kd p sure ((j:Int)-2))) (af::af::aB R [(0,.loop L)]::G j)).all fun x=>x.1=Ex.normal∧x.2.2=af::af::aB R [(0,.loop L)]::G (j+1):=by
     rw[Ic,e1,e2,ei,hG.skip j hj hh]
     rw[eh,decide_eq_false_iff_not] at hh
     cases sure<;>simp only[Bool.false_eq_true,if_true,if_false] at hh<;>repeat' first | (refine Tr.an (fun hc=>?_) (fun hc=>?_)<;>(try simp (disch:=omega) only[nV,nW] at hc)<;>try omega) | (refine Tr.ao ?_ ?_;· (try simp (disch:=omega) only[nV,nW]);try omega) | (refine Tr.ak ?_ ?_;· first | exact trivial | rfl | exact ⟨rfl,rfl⟩ | exact ⟨rfl,rfl,rfl⟩ | (simp (disch:=omega) only[nV,nW];done) | ((try simp (disch:=omega) only[nV,nW]);omega)) | fail
     all_goals exact Tr.aq ⟨rfl,rfl⟩
    obtain ⟨x,h1,h3,h4⟩:=key
    have:=bK (cx:=fQ (n+2)) (bU n 2) _ (ah _ _) (ai _ _) _ _ _ h1
    rw[aw] at this
    refine ⟨strip x.2.1,this.trans ?_⟩
    obtain ⟨e,f,g⟩:=x
    dsimp only at h3 h4
    subst h3;subst h4
    rfl
 obtain ⟨fr',h2⟩:=h2 { dD tk w ls ld zs zd sz kd p sure with state:=.busy }
 have key:=dE (P:=Try.prog) (ora:=mo) (KT:=Kt.kt) (fu:=100000) (n:=n+2) (d:=1) (i:=1) (args:=[.int .i64 ((j:Int)-2)]) (H:=af::aB R [(0,.loop (dD tk w ls ld zs zd sz kd p sure))]::G j) (l:=dD tk w ls ld zs zd sz kd p sure) (l1:=dD tk w ls ld zs zd sz kd p sure) (l2:={ dD tk w ls ld zs zd sz kd p sure with state:=.busy }) (fr:=Eh tk w ls ld zs zd sz kd p sure ((j:Int)-2)) rfl rfl rfl rfl ha rfl rfl h2 rfl
 refine key.trans ?_
 cases (cG kd sure p ((j:Int)-2) && !go j)<;>rfl
theorem GH {G X:Nat→ae} {go:Nat→Bool} (hG:iK R n ls kd p sure G X go) (hp:-2≤p∧p<10) (hls:ls≤10):cd (n+4) (.fn 109) [.yld 0 1,.ptrT (some 0) (.G [a9 (tk+2) w ls ld zs zd sz kd]) 0] (aB R [(0,.loop (dD tk w ls ld zs zd sz kd p sure))]::G 0) =
 some (.tup [],aB R [(0,.loop (pY tk w ls ld zs zd sz kd p sure (bD (dC kd sure p go) (ls+2))))]::(if bD (dC kd sure p go) (ls+2)=true then X (fN (dC kd sure p go) (ls+2) 0) else G (ls+2))):=by
 have l:=gV (n:=n+3) (f:=109) (nt:=18) (c:=part Try.f109 [1,0,0]) 0 (fun j=>we tk w ls ld zs zd sz kd ((j:Int)-2)) (fun j=>af::aB R [(0,.loop (dD tk w ls ld zs zd sz kd p sure))]::G j) (ls+2) (dC kd sure p go)
  (fun j=>(we tk w ls ld zs zd sz kd ((j:Int)-2)++[(17,.bool true)],af::aB R [(0,.loop (pY tk w ls ld zs zd sz kd p sure true))]::X j))
  (we tk w ls ld zs zd sz kd (((ls+2:Nat):Int)-2)++[(11,.bool false)],af::aB R [(0,.loop (dD tk w ls ld zs zd sz kd p sure))]::G (ls+2)) (by omega) (fun j hj=>?_) ?_
 · have hb:∃ fA,exec (bF (n+3) 109 18) (.block 0 (.loop (part Try.f109 [1,0,0]))) (we tk w ls ld zs zd sz kd (-2)) (af::aB R [(0,.loop (dD tk w ls ld zs zd sz kd p sure))]::G 0)=some (cond (bD (dC kd sure p go) (ls+2)) Ex.ret Ex.normal,fA,af::aB R [(0,.loop (pY tk w ls ld zs zd sz kd p sure (bD (dC kd sure p go) (ls+2))))]::(if bD (dC kd sure p go) (ls+2)=true then X (fN (dC kd sure p go) (ls+2) 0) else G (ls+2))):=by
    cases hc:bD (dC kd sure p go) (ls+2) with
    | true=>rw[hc] at l;exact ⟨_,l⟩
    | false=>rw[hc] at l;exact ⟨_,l⟩
   obtain ⟨fA,hl⟩:=hb
   refine bp (n:=n+3) Try.func109 rfl rfl rfl (Iu (n+3) tk w ls ld zs zd sz kd _ (aB R [(0,.loop (pY tk w ls ld zs zd sz kd p sure (bD (dC kd sure p go) (ls+2))))]::(if bD (dC kd sure p go) (ls+2)=true then X (fN (dC kd sure p go) (ls+2) 0) else G (ls+2))) (bD (dC kd sure p go) (ls+2)) fA) (bk (n+3)) (bf (ah _ _) BK (fun x hx=>?_)) (ai _ _) ?_
   · refine hl.trans ?_
     rcases Tr.bH hx with ⟨hc,hx⟩ | ⟨hc,hx⟩
     · rw[← Tr.ab hx,hc];simp only[dg.st,aw];rfl
     · rw[← Tr.ab hx,hc];simp only[dg.st,aw];rfl
   · refine Tr.ak ⟨rfl,rfl⟩ (Tr.an (fun _=>Tr.aq ⟨rfl,rfl⟩) (fun _=>Tr.aq ⟨rfl,rfl⟩))
 · have hr:=HM R n tk w ls ld zs zd sz kd p sure hG hp hls j hj
   have ej:ay .i64 ((j:Int)-2) (Int.ofNat 1)=((j+1:Nat):Int)-2:=by rw[aR,show Int.ofNat 1=1 from rfl,bX (by omega) (by omega)];omega
   have hd:dC kd sure p go j=(cG kd sure p ((j:Int)-2) && !go j):=rfl
   rw[← hd] at hr
   refine bz (H8 (n+3) tk w ls ld zs zd sz kd _ (aB R [(0,.loop (pY tk w ls ld zs zd sz kd p sure (dC kd sure p go j)))]::(if dC kd sure p go j=true then X j else G (j+1))) ((j:Int)-2) (!dC kd sure p go j)) (vf (bk (n+3)) (fun x hx=>by rw[← Tr.ab hx];exact hr)) (ah _ _) (ai _ _) ?_
   rw[ej]
   cases dC kd sure p go j
   · repeat' first | (refine Tr.an (fun hc=>?_) (fun hc=>?_)<;>(try simp (disch:=omega) only[nV,nW] at hc)<;>try omega) | (refine Tr.ao ?_ ?_;· (try simp (disch:=omega) only[nV,nW]);try omega) | (refine Tr.ak ?_ ?_;· first | exact trivial | rfl | exact ⟨rfl,rfl⟩ | exact ⟨rfl,rfl,rfl⟩ | (simp (disch:=omega) only[nV,nW];done) | ((try simp (disch:=omega) only[nV,nW]);omega)) | fail
     refine Tr.aq ?_
     rw[if_neg (by simp)]
     exact ⟨rfl,rfl⟩
   · repeat' first | (refine Tr.an (fun hc=>?_) (fun hc=>?_)<;>(try simp (disch:=omega) only[nV,nW] at hc)<;>try omega) | (refine Tr.ao ?_ ?_;· (try simp (disch:=omega) only[nV,nW]);try omega) | (refine Tr.ak ?_ ?_;· first | exact trivial | rfl | exact ⟨rfl,rfl⟩ | exact ⟨rfl,rfl,rfl⟩ | (simp (disch:=omega) only[nV,nW];done) | ((try simp (disch:=omega) only[nV,nW]);omega)) | fail
     refine Tr.aq ?_
     rw[if_pos rfl]
     rfl
 · obtain ⟨x,h1,rfl⟩:=bz (f:=109) (nt:=18) (Q:=fun x=>x=(.exit 0,we tk w ls ld zs zd sz kd (((ls+2:Nat):Int)-2)++[(11,.bool false)],af::aB R [(0,.loop (dD tk w ls ld zs zd sz kd p sure))]::G (ls+2))) (FK (n+3) tk w ls ld zs zd sz kd (aB R [(0,.loop (dD tk w ls ld zs zd sz kd p sure))]::G (ls+2)) (((ls+2:Nat):Int)-2)) (bk (n+3)) (ah _ _) (ai _ _) (by
    repeat' first | (refine Tr.an (fun hc=>?_) (fun hc=>?_)<;>(try simp (disch:=omega) only[nV,nW] at hc)<;>try omega) | (refine Tr.ao ?_ ?_;· (try simp (disch:=omega) only[nV,nW]);try omega) | (refine Tr.ak ?_ ?_;· first | exact trivial | rfl | exact ⟨rfl,rfl⟩ | exact ⟨rfl,rfl,rfl⟩ | (simp (disch:=omega) only[nV,nW];done) | ((try simp (disch:=omega) only[nV,nW]);omega)) | fail
    exact Tr.aq rfl)
   exact h1
theorem HR {G X:Nat→ae} {go:Nat→Bool} (hG:iK R n ls kd p sure G X go) (hp:-2≤p∧p<10) (hls:ls≤10):exec (bF (n+4) 110 29) (.rangeFunc (.tmp 16) #[17] (part Try.f110 [1,1,1,0,0]) (part Try.f110 [1,1,1,0,1])) (lr tk w ls ld zs zd sz kd p sure) (aB R []::G 0) =
 some (cond (bD (dC kd sure p go) (ls+2)) Ex.ret Ex.normal,lr tk w ls ld zs zd sz kd p sure,aB R [(0,.dead)]::(if bD (dC kd sure p go) (ls+2)=true then X (fN (dC kd sure p go) (ls+2) 0) else G (ls+2))):=by
 have hc:=GH R n tk w ls ld zs zd sz kd p sure hG hp hls
 cases ha:bD (dC kd sure p go) (ls+2) with
 | true =>
   rw[ha] at hc
   exact c5 (cx:=bF (n+4) 110 29) (l:=pY tk w ls ld zs zd sz kd p sure true) (f:=.tmp 16) (ps:=#[17]) (fr:=lr tk w ls ld zs zd sz kd p sure) (H:=aB R []::G 0) (g:=109) (a:=[]) (b:=[.ptrT (some 0) (.G [a9 (tk+2) w ls ld zs zd sz kd]) 0]) rfl rfl rfl hc rfl rfl rfl
 | false =>
   rw[ha] at hc
   exact c5 (cx:=bF (n+4) 110 29) (l:=pY tk w ls ld zs zd sz kd p sure false) (f:=.tmp 16) (ps:=#[17]) (fr:=lr tk w ls ld zs zd sz kd p sure) (H:=aB R []::G 0) (g:=109) (a:=[]) (b:=[.ptrT (some 0) (.G [a9 (tk+2) w ls ld zs zd sz kd]) 0]) rfl rfl rfl hc rfl rfl rfl
theorem I5 {G X:Nat→ae} {go:Nat→Bool} (hG:iK R n ls kd p sure G X go) (hp:-2≤p∧p<ls) (hls:ls≤10):cd (n+5) (.fn 110) (.yld 0 R::y9 tk w ls ld zs zd sz kd p sure) (G 0) =
 some (.tup [],if bD (dC kd sure p go) (ls+2)=true then X (fN (dC kd sure p go) (ls+2) 0) else G (ls+2)):=by
 refine bp (n:=n+4) Try.func110 rfl rfl rfl (Lf R n tk w ls ld zs zd sz kd (G 0) (if bD (dC kd sure p go) (ls+2)=true then X (fN (dC kd sure p go) (ls+2) 0) else G (ls+2)) p sure (bD (dC kd sure p go) (ls+2))) (bU (n+3) 1) (ah _ _) (eX (ai _ _) (fun f ps a b _ hm x hx=>?_)) ?_
 · rw[Gk] at hm
   simp only[List.mem_cons,Prod.mk.injEq,List.not_mem_nil,or_false] at hm
   obtain ⟨rfl,rfl,rfl,rfl⟩:=hm
   refine (HR R n tk w ls ld zs zd sz kd p sure hG (by omega) hls).trans ?_
   rcases Tr.bH hx with ⟨hc,hx⟩ | ⟨hc,hx⟩
   · rw[← Tr.ab hx,hc];simp only[dg.st,aw];rfl
   · rw[← Tr.ab hx,hc];simp only[dg.st,aw];rfl
 · have e1:ay .i64 p (Int.ofNat 2)=p+2:=by rw[aR,show Int.ofNat 2=2 from rfl];exact bX (by omega) (by omega)
   have e2:fM (al 4 (p+2) 12) 4=(p+2).toNat*12:=by rw[fh,bT];omega
   rw[e1,e2]
   refine Tr.ao (by rw[dW];simp;omega) (Tr.ao (by rw[fH,bT];simp;omega) (Tr.an (fun hc=>?_) (fun hc=>?_)))
   · have h0:∀ j,j<ls+2→cG kd sure p ((j:Int)-2)=false:=fun j hj=>by
      have:=(yW _ _ _).1 hc j (by omega)
      rw[jF] at this
      dsimp only at this
      unfold cG
      rw[show ((j:Int)-2+2).toNat=j by omega,this,decide_eq_false_iff_not]
      cases sure<;>decide
     have hn:bD (dC kd sure p go) (ls+2)=false:=by
      cases hq:bD (dC kd sure p go) (ls+2) with
      | false=>rfl
      | true =>
        obtain ⟨j,hj,h1⟩:=(bV _ _).1 hq
        unfold dC at h1
        rw[h0 j hj] at h1;cases h1
     have hs:∀ j,j≤ls+2→G j=G 0:=fun j=>by
      induction j with
      | zero=>intro _;rfl
      | succ j ih=>intro hj;rw[hG.skip j (by omega) (h0 j (by omega)),ih (by omega)]
     rw[hn,if_neg (by simp),hs _ (Nat.le_refl _)]
     exact Tr.aq ⟨rfl,rfl⟩
   · refine Tr.ak ⟨rfl,rfl⟩ (Tr.an (fun _=>Tr.aq ⟨rfl,rfl⟩) (fun _=>Tr.aq ⟨rfl,rfl⟩))
end
end Go.Eng
end
section
namespace Go.Eng
open Go.Proofs
set_option linter.unusedVariables false
set_option linter.unusedSimpArgs false
set_option maxRecDepth 100000
noncomputable def yt (w:Int) (ls ld:Nat) (zs zd sz kd:Nat→Int) (sure:Bool) (hS:Int→Bool) (gS:Int→Int) (cS:Nat) (hW:Int→Bool) (gW:Int→Int) (cW:Nat) (s left:Int) (rest:List (Nat×aj)):b6:=fp w ls ld zs zd sz kd sure hS gS cS hW gW cW s ((0,.row (.I .i64 [left]))::rest)
noncomputable def dy (x:Int) (rest:List (Nat×aj)):b6:=⟨false,(0,.row (.G [.fn (.func 105) [] [.ptr 1 3 0 0,.ptr 1 8 0 0]]))::(0,.row (.I .i64 [x]))::rest⟩
noncomputable def lq (w:Int) (ls ld:Nat) (zs zd sz kd:Nat→Int) (a:Int) (sure:Bool):aO:=[(3,.ptr 0 0 0 0),(4,.ptr 0 1 0 0),(6,.fn (.func 110) [] (y9 1 w ls ld zs zd sz kd a sure))]
noncomputable def ru (w:Int) (ls ld:Nat) (zs zd sz kd:Nat→Int) (a:Int) (sure:Bool) (q:Int):aO:=[(3,.ptr 4 0 0 0),(4,.ptr 4 1 0 0),(6,.fn (.func 110) [] [.ptrT (some 5) (.G [a9 1 w ls ld zs zd sz kd]) 0,.ptrT none (.I .i64 [a]) 0,.ptrT (some 5) (.G [.bool sure]) 0]),(7,.int .i64 q)]
noncomputable def rr (q:Int):aO:=[(3,.ptr 4 0 0 0),(4,.ptr 4 1 0 0),(5,.int .i64 q)]
noncomputable def mQ (n:Nat):Cx:=⟨Try.prog,cd n,100000,103,12,Kt.kt 103,some (4,2)⟩
noncomputable def IC:Code:=part Try.f103 [1,0,1,0,0]
noncomputable def G3:Code:=part Try.f103 [1,0,1,0,1]
def Hg (Q:Int) (b:Bool):List AV→Option (Prop×AV)
 | [.int .i64 q,.ptr 5 3 0 0,.ptr 5 8 0 0]=>some (q=Q,.bool b)
 | _=>none
theorem Om (n:Nat) (w:Int) (ls ld:Nat) (zs zd sz kd:Nat→Int) (H:ae) (q:Int) (sure:Bool) (hS:Int→Bool) (gS:Int→Int) (cS:Nat) (hW:Int→Bool) (gW:Int→Int) (cW:Nat) (s left x:Int) (L0:bw) (B:aj) (rest:List (Nat×aj)):aW Try.prog (cd n) 100000 105 Try.f105 (Kt.kt 105) (il aG n 0) aJ aK [(.int .i64 q,none),(.ptr 5 3 0 0,none),(.ptr 5 8 0 0,none)] (af::af::af::aB 2 [(0,.loop L0)]::dy x [(0,B)]::yt w ls ld zs zd sz kd sure hS gS cS hW gW cW s left rest::H) =
 (fun (Z0:b6)=>((fun (Z1:b6)=>Tr.ite (hS q) (Tr.ok ((AV.bool (aF (gS q) left),none),af::af::af::{ lock:=false,bs:=[(0,aj.row (Row.G [AV.yld 1 2])),(0,aj.loop L0)] } :: Z1::Z0::H)) (Tr.ok ((AV.bool false,some 1),af::af::af::{ lock:=false,bs:=[(0,aj.row (Row.G [AV.yld 1 2])),(0,aj.loop L0)] } :: Z1::Z0::H))) { lock:=false,bs:=[(0,aj.row (Row.G [AV.fn (Fn.func 105) [] [AV.ptr 1 3 0 0,AV.ptr 1 8 0 0]])),(0,aj.row (Row.I .i64 [x])),(0,B)] })) { lock:=false,bs:=(0,aj.row (Row.G [a9 1 w ls ld zs zd sz kd]))::(0,aj.row (Row.G [AV.bool sure]))::(0,aj.fmap hS gS cS)::(0,aj.row (Row.G [AV.map 0 2]))::(0,aj.fmap hW gW cW)::(0,aj.row (Row.G [AV.map 0 4]))::(0,aj.row (Row.I .i64 [Int.ofNat 0]))::(0,aj.row (Row.I .i64 [s]))::(0,aj.row (Row.I .i64 [left]))::rest }:=by kernel_rfl
theorem Kv (n:Nat) (G:ae) (q x:Int) (b:Bool) (L0:bw) (B:aj):aH (mQ (n+1)) (il (GU aG 105 (af::af::af::aB 2 [(0,.loop L0)]::dy x [(0,B)]::G) (Hg q b)) (n+1) 0) aJ aK G3 (hints (rr q)) (af::af::af::aB 2 [(0,.loop L0)]::dy x [(0,B)]::G) =
 (fun (Z0:b6)=>((fun (Z1:b6)=>Tr.reqP (q=q∧af::af::af::Z1::Z0::G=af::af::af::Z1::Z0::G) (Tr.ite b (Tr.ok (Ex.ret,[],af::af::af::Z1::{ lock:=false,bs:=[(0,aj.row (Row.G [AV.fn (Fn.func 105) [] [AV.ptr 1 3 0 0,AV.ptr 1 8 0 0]])),(0,aj.row (Row.I .i64 [q])),(0,B)] } :: G)) (Tr.ok (Ex.normal,[(4,AV.ptr 4 1 0 0,none),(5,AV.int .i64 q,none),(10,AV.bool false,some 1)],af::af::af::Z1::Z0::G)))) { lock:=false,bs:=[(0,aj.row (Row.G [AV.yld 1 2])),(0,aj.loop L0)] })) { lock:=false,bs:=[(0,aj.row (Row.G [AV.fn (Fn.func 105) [] [AV.ptr 1 3 0 0,AV.ptr 1 8 0 0]])),(0,aj.row (Row.I .i64 [x])),(0,B)] }:=by kernel_rfl
theorem K8 (n:Nat) (w:Int) (ls ld:Nat) (zs zd sz kd:Nat→Int) (H:ae) (a v:Int) (sure e:Bool) (hS:Int→Bool) (gS:Int→Int) (cS:Nat) (hW:Int→Bool) (gW:Int→Int) (cW:Nat) (s left:Int) (rest:List (Nat×aj)):aW Try.prog (cd (n+6)) 100000 103 Try.f103 (Kt.kt 103) (il aG (n+6) 0) aJ (th aK (fun _=>true) (lq w ls ld zs zd sz kd a sure) (dy 0 []::yt w ls ld zs zd sz kd sure hS gS cS hW gW cW s left rest::H) (.ite e (.ok (.ret,hints (lq w ls ld zs zd sz kd a sure),dy v [(0,.dead)]::yt w ls ld zs zd sz kd sure hS gS cS hW gW cW s left rest::H)) (.ok (.normal,hints (lq w ls ld zs zd sz kd a sure),dy 0 [(0,.dead)]::yt w ls ld zs zd sz kd sure hS gS cS hW gW cW s left rest::H)))) [(.fn (.func 110) [] (gv 1 w ls ld zs zd sz kd a sure),none),(.fn (.func 105) [] [.ptr 0 3 0 0,.ptr 0 8 0 0],none)] (yt w ls ld zs zd sz kd sure hS gS cS hW gW cW s left rest::H) =
 (fun (Z0:b6)=>((fun (Z1:aO)=>((fun (Z2:b6)=>Tr.reqP (Z1=Z1∧Z2::Z0::H=Z2::Z0::H) (Tr.ite e (Tr.ok ((AV.int .i64 v,none),Z0::H)) (Tr.ok ((AV.int .i64 (Int.negSucc 2),none),Z0::H)))) { lock:=false,bs:=[(0,aj.row (Row.G [AV.fn (Fn.func 105) [] [AV.ptr 1 3 0 0,AV.ptr 1 8 0 0]])),(0,aj.row (Row.I .i64 [Int.ofNat 0]))] })) [(3,AV.ptr 0 0 0 0),(4,AV.ptr 0 1 0 0),(6,AV.fn (Fn.func 110) [] [AV.ptrT (some 1) (Row.G [a9 1 w ls ld zs zd sz kd]) 0,AV.ptrT none (Row.I .i64 [a]) 0,AV.ptrT (some 1) (Row.G [AV.bool sure]) 0])])) { lock:=false,bs:=(0,aj.row (Row.G [a9 1 w ls ld zs zd sz kd]))::(0,aj.row (Row.G [AV.bool sure]))::(0,aj.fmap hS gS cS)::(0,aj.row (Row.G [AV.map 0 2]))::(0,aj.fmap hW gW cW)::(0,aj.row (Row.G [AV.map 0 4]))::(0,aj.row (Row.I .i64 [Int.ofNat 0]))::(0,aj.row (Row.I .i64 [s]))::(0,aj.row (Row.I .i64 [left]))::rest }:=by kernel_rfl
noncomputable def sM (S:WS) (left q:Int):Bool:=S.hS q && decide (S.gS q=left)
noncomputable def fK (w:Int) (ls ld:Nat) (zs zd sz kd:Nat→Int) (sure:Bool) (S:WS) (s left:Int) (rest:List (Nat×aj)):b6:=yt w ls ld zs zd sz kd sure S.hS S.gS S.cS S.hW S.gW S.cW s left rest
noncomputable def ff (w:Int) (ls ld:Nat) (zs zd sz kd:Nat→Int) (a:Int) (sure:Bool):bw:={ state:=.ready,pending:=none,fn:=103,nt:=12,fr:=lq w ls ld zs zd sz kd a sure,params:=[7],assign:=IC,body:=G3 }
noncomputable def Ac (w:Int) (ls ld:Nat) (zs zd sz kd:Nat→Int) (a:Int) (sure:Bool):bw:={ ff w ls ld zs zd sz kd a sure with state:=.done,pending:=some .ret }
noncomputable def Iw (kd:Nat→Int) (sure:Bool) (ls:Nat) (S:WS) (left a:Int):Int:=if bD (dC kd sure a (fun j=>!sM S left ((j:Int)-2))) (ls+2)=true then ((fN (dC kd sure a (fun j=>!sM S left ((j:Int)-2))) (ls+2) 0:Nat):Int)-2 else -3
section
variable (n:Nat) (w:Int) (ls ld:Nat) (zs zd sz kd:Nat→Int) (H:ae) (a s left x:Int) (sure:Bool) (S:WS) (rest:List (Nat×aj))
theorem LO (q:Int) (L0:bw) (B:aj):cd (n+1) (.fn 105) [.int .i64 q,.ptr 5 3 0 0,.ptr 5 8 0 0] (af::af::af::aB 2 [(0,.loop L0)]::dy x [(0,B)]::fK w ls ld zs zd sz kd sure S s left rest::H) =
 some (.bool (sM S left q),af::af::af::aB 2 [(0,.loop L0)]::dy x [(0,B)]::fK w ls ld zs zd sz kd sure S s left rest::H):=by
 refine bp (n:=n) Try.func105 rfl rfl rfl (Om n w ls ld zs zd sz kd H q sure S.hS S.gS S.cS S.hW S.gW S.cW s left x L0 B rest) (bk n) (ah _ _) (ai _ _) ?_
 unfold sM
 repeat' first | (refine Tr.an (fun hc=>?_) (fun hc=>?_)<;>(try simp (disch:=omega) only[nV,nW] at hc)<;>try omega) | (refine Tr.ao ?_ ?_;· (try simp (disch:=omega) only[nV,nW]);try omega) | (refine Tr.ak ?_ ?_;· first | exact trivial | rfl | exact ⟨rfl,rfl⟩ | exact ⟨rfl,rfl,rfl⟩ | (simp (disch:=omega) only[nV,nW];done) | ((try simp (disch:=omega) only[nV,nW]);omega)) | fail
 all_goals refine Tr.aq ⟨?_,rfl⟩
 · rw[hc,aP];rfl
 · have:S.hS q=false:=by simpa using hc
   rw[this];rfl
theorem Gy (q:Int) (L0:b6) (G:ae):exec (mQ n) IC (ru w ls ld zs zd sz kd a sure q) (af::af::af::L0::G)=some (.normal,rr q,af::af::af::L0::G):=by
 have e:aH (mQ n) (il aG n 0) aJ aK IC (hints (ru w ls ld zs zd sz kd a sure q)) (af::af::af::L0::G)=.ok (.normal,hints (rr q),af::af::af::L0::G):=by kernel_rfl
 have:=bK (cx:=mQ n) (bk n) IC (ah _ _) (ai _ _) (hints (ru w ls ld zs zd sz kd a sure q)) (af::af::af::L0::G) _ (by rw[e];rfl)
 rw[aw] at this
 simp only[dg.st,aw] at this
 exact this
theorem GB (q:Int) (L0:bw) (B:aj):∃ fr',exec (mQ (n+1)) G3 (rr q) (af::af::af::aB 2 [(0,.loop L0)]::dy x [(0,B)]::fK w ls ld zs zd sz kd sure S s left rest::H)=some (cond (sM S left q) Ex.ret Ex.normal,fr',af::af::af::aB 2 [(0,.loop L0)]::dy (cond (sM S left q) q x) [(0,B)]::fK w ls ld zs zd sz kd sure S s left rest::H):=by
 have key:(aH (mQ (n+1)) (il (GU aG 105 (af::af::af::aB 2 [(0,.loop L0)]::dy x [(0,B)]::fK w ls ld zs zd sz kd sure S s left rest::H) (Hg q (sM S left q))) (n+1) 0) aJ aK G3 (hints (rr q)) (af::af::af::aB 2 [(0,.loop L0)]::dy x [(0,B)]::fK w ls ld zs zd sz kd sure S s left rest::H)).all fun y=>y.1=cond (sM S left q) Ex.ret Ex.normal∧y.2.2=af::af::af::aB 2 [(0,.loop L0)]::dy (cond (sM S left q) q x) [(0,B)]::fK w ls ld zs zd sz kd sure S s left rest::H:=by
  rw[Kv]
  repeat' first | (refine Tr.an (fun hc=>?_) (fun hc=>?_)<;>(try simp (disch:=omega) only[nV,nW] at hc)<;>try omega) | (refine Tr.ao ?_ ?_;· (try simp (disch:=omega) only[nV,nW]);try omega) | (refine Tr.ak ?_ ?_;· first | exact trivial | rfl | exact ⟨rfl,rfl⟩ | exact ⟨rfl,rfl,rfl⟩ | (simp (disch:=omega) only[nV,nW];done) | ((try simp (disch:=omega) only[nV,nW]);omega)) | fail
  all_goals refine Tr.aq ?_
  all_goals rw[hc];exact ⟨rfl,rfl⟩
 obtain ⟨y,h1,h3,h4⟩:=key
 have:=bK (cx:=mQ (n+1)) (bQ _ (n+1) 0 (fun k=>B4 (bB _) (fun args p v hg hp=>by
  unfold Hg at hg
  split at hg
  · simp only[nP] at hg
    obtain ⟨rfl,rfl⟩:=hg
    obtain rfl:=hp
    rw[show n+1+k=n+k+1 by omega]
    exact LO _ w ls ld zs zd sz kd H s left x sure S rest _ L0 B
  · cases hg))) G3 (ah _ _) (ai _ _) _ _ _ h1
 rw[aw] at this
 refine ⟨strip y.2.1,this.trans ?_⟩
 obtain ⟨e,f,g⟩:=y
 dsimp only at h3 h4
 subst h3;subst h4
 rfl
theorem EP:iK 2 n ls kd a sure (fun _=>dy 0 [(0,.loop (ff w ls ld zs zd sz kd a sure))]::fK w ls ld zs zd sz kd sure S s left rest::H) (fun j=>dy ((j:Int)-2) [(0,.loop (Ac w ls ld zs zd sz kd a sure))]::fK w ls ld zs zd sz kd sure S s left rest::H) (fun j=>!sM S left ((j:Int)-2)) where
 hit:=fun j hj hh L0=>by
  obtain ⟨fr',h2⟩:=GB n w ls ld zs zd sz kd H s left 0 sure S rest ((j:Int)-2) L0 (.loop { ff w ls ld zs zd sz kd a sure with state:=.busy })
  have ha:=Gy (n+1) w ls ld zs zd sz kd a sure ((j:Int)-2) (aB 2 [(0,.loop L0)]) (dy 0 [(0,.loop (ff w ls ld zs zd sz kd a sure))]::fK w ls ld zs zd sz kd sure S s left rest::H)
  cases hi:sM S left ((j:Int)-2) with
  | true =>
    rw[hi] at h2
    exact dE (P:=Try.prog) (ora:=mo) (KT:=Kt.kt) (fu:=100000) (n:=n+1) (d:=3) (i:=2) (args:=[.int .i64 ((j:Int)-2)]) (H:=af::af::aB 2 [(0,.loop L0)]::dy 0 [(0,.loop (ff w ls ld zs zd sz kd a sure))]::fK w ls ld zs zd sz kd sure S s left rest::H) (l:=ff w ls ld zs zd sz kd a sure) (l1:=ff w ls ld zs zd sz kd a sure) (l2:={ ff w ls ld zs zd sz kd a sure with state:=.busy }) (fr:=ru w ls ld zs zd sz kd a sure ((j:Int)-2)) rfl rfl rfl rfl ha rfl rfl h2 rfl
  | false =>
    rw[hi] at h2
    exact dE (P:=Try.prog) (ora:=mo) (KT:=Kt.kt) (fu:=100000) (n:=n+1) (d:=3) (i:=2) (args:=[.int .i64 ((j:Int)-2)]) (H:=af::af::aB 2 [(0,.loop L0)]::dy 0 [(0,.loop (ff w ls ld zs zd sz kd a sure))]::fK w ls ld zs zd sz kd sure S s left rest::H) (l:=ff w ls ld zs zd sz kd a sure) (l1:=ff w ls ld zs zd sz kd a sure) (l2:={ ff w ls ld zs zd sz kd a sure with state:=.busy }) (fr:=ru w ls ld zs zd sz kd a sure ((j:Int)-2)) rfl rfl rfl rfl ha rfl rfl h2 rfl
 skip:=fun j hj hh=>rfl
theorem HQ (hls:ls≤10) (ha:-2≤a∧a<ls) (b:Bool) (hb:bD (dC kd sure a (fun j=>!sM S left ((j:Int)-2))) (ls+2)=b):exec (bF (n+6) 103 12) (.rangeFunc (.tmp 6) #[7] IC G3) (lq w ls ld zs zd sz kd a sure) (dy 0 []::fK w ls ld zs zd sz kd sure S s left rest::H) =
 some (cond b Ex.ret Ex.normal,lq w ls ld zs zd sz kd a sure,dy (cond b (((fN (dC kd sure a (fun j=>!sM S left ((j:Int)-2))) (ls+2) 0:Nat):Int)-2) 0) [(0,.dead)]::fK w ls ld zs zd sz kd sure S s left rest::H):=by
 have hn:=I5 2 (n+1) 1 w ls ld zs zd sz kd a sure (EP (n+1) w ls ld zs zd sz kd H a s left sure S rest) ha hls
 rw[hb] at hn
 generalize fN (dC kd sure a (fun j=>!sM S left ((j:Int)-2))) (ls+2) 0=N at *
 cases b with
 | true =>
   rw[if_pos rfl] at hn
   exact c5 (cx:=bF (n+6) 103 12) (l:=Ac w ls ld zs zd sz kd a sure) (f:=.tmp 6) (ps:=#[7]) (fr:=lq w ls ld zs zd sz kd a sure) (H:=dy 0 []::fK w ls ld zs zd sz kd sure S s left rest::H) (g:=110) (a:=[]) (b:=y9 1 w ls ld zs zd sz kd a sure) (e:=.ret) rfl rfl rfl hn rfl rfl rfl
 | false =>
   rw[if_neg (by simp)] at hn
   exact c5 (cx:=bF (n+6) 103 12) (l:=ff w ls ld zs zd sz kd a sure) (f:=.tmp 6) (ps:=#[7]) (fr:=lq w ls ld zs zd sz kd a sure) (H:=dy 0 []::fK w ls ld zs zd sz kd sure S s left rest::H) (g:=110) (a:=[]) (b:=y9 1 w ls ld zs zd sz kd a sure) (e:=.normal) rfl rfl rfl hn rfl rfl rfl
theorem J3:cM (aL Try.f103)=[(.tmp 6,#[7],IC,G3)]:=by kernel_rfl
theorem IZ (hls:ls≤10) (ha:-2≤a∧a<ls):cd (n+7) (.fn 103) [.fn (.func 110) [] (gv 1 w ls ld zs zd sz kd a sure),.fn (.func 105) [] [.ptr 0 3 0 0,.ptr 0 8 0 0]] (fK w ls ld zs zd sz kd sure S s left rest::H) =
 some (.int .i64 (Iw kd sure ls S left a),fK w ls ld zs zd sz kd sure S s left rest::H):=by
 have hr:=HQ n w ls ld zs zd sz kd H a s left sure S rest hls ha _ rfl
 unfold Iw
 generalize bD (dC kd sure a (fun j=>!sM S left ((j:Int)-2))) (ls+2)=b at *
 generalize ((fN (dC kd sure a (fun j=>!sM S left ((j:Int)-2))) (ls+2) 0:Nat):Int)-2=v at *
 refine bp (n:=n+6) Try.func103 rfl rfl rfl (K8 n w ls ld zs zd sz kd H a v sure b S.hS S.gS S.cS S.hW S.gW S.cW s left rest) (bU (n+6) 0) (ah _ _) (eX (ai _ _) (fun f ps c d _ hm y hy=>?_)) ?_
 · rw[J3] at hm
   simp only[List.mem_cons,Prod.mk.injEq,List.not_mem_nil,or_false] at hm
   obtain ⟨rfl,rfl,rfl,rfl⟩:=hm
   refine hr.trans ?_
   rcases Tr.bH hy with ⟨hc,hy⟩ | ⟨hc,hy⟩
   · rw[← Tr.ab hy,hc];simp only[dg.st,aw];rfl
   · rw[← Tr.ab hy,hc];simp only[dg.st,aw];rfl
 · repeat' first | (refine Tr.an (fun hc=>?_) (fun hc=>?_)<;>(try simp (disch:=omega) only[nV,nW] at hc)<;>try omega) | (refine Tr.ao ?_ ?_;· (try simp (disch:=omega) only[nV,nW]);try omega) | (refine Tr.ak ?_ ?_;· first | exact trivial | rfl | exact ⟨rfl,rfl⟩ | exact ⟨rfl,rfl,rfl⟩ | (simp (disch:=omega) only[nV,nW];done) | ((try simp (disch:=omega) only[nV,nW]);omega)) | fail
   all_goals refine Tr.aq ⟨?_,rfl⟩
   all_goals rw[hc];rfl
end
end Go.Eng
end
