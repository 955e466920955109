/- Drop: near: rounds over the places that hold together with one. -/
import Derived.Test.YtjmjkhpfipglcaaV7DrVx8
namespace Go.Eng
open Go.Proofs
set_option linter.unusedVariables false
set_option linter.unusedSimpArgs false
set_option maxRecDepth 100000
noncomputable def HP (base:cr) (d0 i0:Nat) (args0:List AV) (H0:ae) (u:Tr (AV×ae)):cr:=fun tgt args H=>match tgt with
 | .round d i=>cond (Nat.beq d d0) (.reqP (i=i0∧py args=args0∧H=H0) (u.bind fun y=>.ok ((y.1,none),y.2))) .bad
 | .fn g=>base (.fn g) args H
 | .mode=>base .mode args H
noncomputable def gv (tk:Nat) (w:Int) (ls ld:Nat) (zs zd sz kd:Nat→Int) (p:Int) (sure:Bool):List AV:=[.ptrT (some 0) (.G [a9 tk w ls ld zs zd sz kd]) 0,.ptrT none (.I .i64 [p]) 0,.ptrT (some 0) (.G [.bool sure]) 0]
noncomputable def pE (tk:Nat) (w:Int) (ls ld:Nat) (zs zd sz kd:Nat→Int) (p:Int) (sure:Bool):aO:=[(1,.ptrT (some 1) (.G [a9 tk w ls ld zs zd sz kd]) 0),(2,.ptrT none (.I .i64 [p]) 0),(3,.ptrT (some 1) (.G [.bool sure]) 0),(4,.ptr 0 0 0 0),(16,.fn (.func 109) [] [.ptrT (some 0) (.G [a9 (tk+1) w ls ld zs zd sz kd]) 0])]
noncomputable def aB (r:Nat) (rest:List (Nat×aj)):b6:=⟨false,(0,.row (.G [.yld 1 r]))::rest⟩
noncomputable def fQ (n:Nat):Cx:=⟨Try.prog,cd n,100000,110,29,Kt.kt 110,some (2,1)⟩
noncomputable def Ln (tk:Nat) (w:Int) (ls ld:Nat) (zs zd sz kd:Nat→Int) (p:Int) (sure:Bool) (q:Int):aO:=[(1,.ptrT (some 3) (.G [a9 tk w ls ld zs zd sz kd]) 0),(2,.ptrT none (.I .i64 [p]) 0),(3,.ptrT (some 3) (.G [.bool sure]) 0),(4,.ptr 2 0 0 0),(16,.fn (.func 109) [] [.ptrT (some 2) (.G [a9 (tk+1) w ls ld zs zd sz kd]) 0]),(17,.int .i64 q)]
noncomputable def IG (tk:Nat) (w:Int) (ls ld:Nat) (zs zd sz kd:Nat→Int) (p:Int) (sure:Bool) (q:Int):aO:=[(1,.ptrT (some 3) (.G [a9 tk w ls ld zs zd sz kd]) 0),(2,.ptrT none (.I .i64 [p]) 0),(3,.ptrT (some 3) (.G [.bool sure]) 0),(4,.ptr 2 0 0 0),(5,.int .i64 q)]
noncomputable def Ga (tk:Nat) (w:Int) (ls ld:Nat) (zs zd sz kd:Nat→Int) (q:Int):aO:=[(0,.yld 1 1),(1,.ptrT (some 1) (.G [a9 (tk+1) w ls ld zs zd sz kd]) 0),(3,.int .i64 q)]
theorem yB {base:cr} {call:bG} (h:base.Ok call) {d0 i0:Nat} {args0:List AV} {H0:ae} {u:Tr (AV×ae)} (k:∀ x,u.run=some x→call (.round d0 i0) args0 H0=some x):(HP base d0 i0 args0 H0 u).Ok call:=by
 refine ⟨h.1,fun tgt args H x hx=>?_⟩
 cases tgt with
 | fn g=>exact h.2 _ _ _ _ hx
 | mode=>exact h.2 _ _ _ _ hx
 | round d i =>
   unfold HP at hx
   obtain ⟨hc,hx2⟩:=Tr.bg hx
   clear hx
   have e1:=Nat.eq_of_beq_eq_true hc
   subst e1
   obtain ⟨⟨e2,e3,e4⟩,hx3⟩:=Tr.fX hx2
   obtain ⟨y,h1,h2⟩:=Tr.bind_some hx3
   rw[e2,e3,e4,k _ h1,← Tr.ab h2]
theorem KD (n:Nat) (tk:Nat) (w:Int) (ls ld:Nat) (zs zd sz kd:Nat→Int) (G:ae) (p q:Int) (sure:Bool):aH (fQ n) (il aG n 0) aJ aK (part Try.f110 [1,1,1,0,0]) (hints (Ln tk w ls ld zs zd sz kd p sure q)) (af::af::G) =
 Tr.ok (Ex.normal,[(1,AV.ptrT (some 3) (Row.G [a9 tk w ls ld zs zd sz kd]) 0,none),(2,AV.ptrT none (Row.I .i64 [p]) 0,none),(3,AV.ptrT (some 3) (Row.G [AV.bool sure]) 0,none),(4,AV.ptr 2 0 0 0,none),(5,AV.int .i64 q,none)],af::af::G):=by kernel_rfl
theorem Ky (n:Nat) (tk:Nat) (w:Int) (ls ld:Nat) (zs zd sz kd:Nat→Int) (G G':ae) (q:Int) (b:Bool):aH (bF n 109 18) (IM (il aG n 0) 1 1 [.int .i64 q] (af::G) (.ok (.bool b,af::G'))) aJ aK (part Try.f109 [1,0,0]) (hints (Ga tk w ls ld zs zd sz kd q)) (af::G) =
 (fun (Z0:Nat×AV×Option Nat)=>Tr.ite (bA q (Int.ofNat ls)) (Tr.reqP ([AV.int .i64 q]=[AV.int .i64 q]∧af::G=af::G) (Tr.ite (aD b) (Tr.ok (Ex.ret,[(0,AV.yld 1 1,none),Z0,(3,AV.int .i64 q,none),(17,AV.bool true,some 1)],af::G')) (Tr.ok (Ex.normal,[(0,AV.yld 1 1,none),Z0,(3,AV.int .i64 (ay .i64 q (Int.ofNat 1)),none)],af::G')))) (Tr.ok (Ex.exit 0,[(0,AV.yld 1 1,none),Z0,(3,AV.int .i64 q,none),(11,AV.bool false,some 1)],af::G))) (1,AV.ptrT (some 1) (Row.G [AV.ptrT (some (Nat.succ tk)) (Row.M [aC.one (AV.int .i64 w),aC.one (aU 2 ls zs),aC.one (aU 3 ld zd),aC.one (.slcT none (.M [.arr .i64 sz (aI ls 2)]) 2 ls true),aC.arr .i64 kd 144]) 0]) 0,none):=by kernel_rfl
theorem H7 (n:Nat) (tk:Nat) (w:Int) (ls ld:Nat) (zs zd sz kd:Nat→Int) (G:ae) (q:Int):aH (bF n 109 18) (il aG n 0) aJ aK (part Try.f109 [1,0,0]) (hints (Ga tk w ls ld zs zd sz kd q)) (af::G) =
 Tr.ite (bA q (Int.ofNat ls)) Tr.bad (Tr.ok (Ex.exit 0,[(0,AV.yld 1 1,none),(1,AV.ptrT (some 1) (Row.G [AV.ptrT (some (Nat.succ tk)) (Row.M [aC.one (AV.int .i64 w),aC.one (aU 2 ls zs),aC.one (aU 3 ld zd),aC.one (.slcT none (.M [.arr .i64 sz (aI ls 2)]) 2 ls true),aC.arr .i64 kd 144]) 0]) 0,none),(3,AV.int .i64 q,none),(11,AV.bool false,some 1)],af::G)):=by kernel_rfl
theorem Lc (n:Nat) (tk:Nat) (w:Int) (ls ld:Nat) (zs zd sz kd:Nat→Int) (G G1:ae) (e:Bool) (fA:aO):aW Try.prog (cd n) 100000 109 Try.f109 (Kt.kt 109) (il aG n 0) (dc aJ 0 (Ga tk w ls ld zs zd sz kd (-2)) (af::G) (.ite e (.ok (.ret,hints fA,af::G1)) (.ok (.normal,hints fA,af::G1)))) aK [(.yld 0 1,none),(.ptrT (some 0) (.G [a9 (tk+1) w ls ld zs zd sz kd]) 0,none)] G =
 (fun (Z0:aO)=>Tr.reqP (Z0=Z0∧af::G=af::G) (Tr.ite e (Tr.ok ((AV.tup [],none),G1)) (Tr.ok ((AV.tup [],none),G1)))) [(0,AV.yld 1 1),(1,AV.ptrT (some 1) (Row.G [AV.ptrT (some (Nat.succ tk)) (Row.M [aC.one (AV.int .i64 w),aC.one (aU 2 ls zs),aC.one (aU 3 ld zd),aC.one (.slcT none (.M [.arr .i64 sz (aI ls 2)]) 2 ls true),aC.arr .i64 kd 144]) 0]) 0),(3,AV.int .i64 (Int.negSucc 1))]:=by kernel_rfl
def cG (kd:Nat→Int) (sure:Bool) (p q:Int):Bool:=decide ((if sure then 2 else 1)≤kd ((p+2).toNat*12+(q+2).toNat))
noncomputable def eV (tk:Nat) (w:Int) (ls ld:Nat) (zs zd sz kd:Nat→Int) (p:Int) (sure:Bool):bw:={ state:=.ready,pending:=none,fn:=110,nt:=29,fr:=pE tk w ls ld zs zd sz kd p sure,params:=[17],assign:=part Try.f110 [1,1,1,0,0],body:=part Try.f110 [1,1,1,0,1] }
noncomputable def xn (tk:Nat) (w:Int) (ls ld:Nat) (zs zd sz kd:Nat→Int) (p:Int) (sure b:Bool):bw:=cond b { eV tk w ls ld zs zd sz kd p sure with state:=.done,pending:=some .ret } (eV tk w ls ld zs zd sz kd p sure)
theorem yW (z y:Nat→Int) (n:Nat):oN z y n=true↔∀ j,j<n→z j=y j:=by
 rw[tx]
 induction n with
 | zero=>simp[allEq]
 | succ n ih =>
   simp only[allEq,Bool.and_eq_true,beq_iff_eq,ih]
   constructor
   · rintro ⟨h1,h2⟩ j hj
     by_cases e:j=n
     · subst e;exact h2
     · exact h1 j (by omega)
   · exact fun h=>⟨fun j hj=>h j (by omega),h n (by omega)⟩
theorem Gk:cM (aL Try.f110)=[(.tmp 16,#[17],part Try.f110 [1,1,1,0,0],part Try.f110 [1,1,1,0,1])]:=by kernel_rfl
theorem KF (R n:Nat) (tk:Nat) (w:Int) (ls ld:Nat) (zs zd sz kd:Nat→Int) (G:ae) (p q:Int) (sure:Bool) (L:bw):aH (fQ (n+2)) (il aG n 2) aJ aK (part Try.f110 [1,1,1,0,1]) (hints (IG tk w ls ld zs zd sz kd p sure q)) (af::af::aB R [(0,.loop L)]::G) =
 Tr.ite sure (Tr.req (br (ay .i64 p (Int.ofNat 2)) 12) (Tr.req (br (ay .i64 q (Int.ofNat 2)) 12) (Tr.req (kO (al (al 4 (ay .i64 p (Int.ofNat 2)) 12) (ay .i64 q (Int.ofNat 2)) 1) 1 4 144) (Tr.ite (dA (Int.ofNat 2) (kd (fM (al (al 4 (ay .i64 p (Int.ofNat 2)) 12) (ay .i64 q (Int.ofNat 2)) 1) 4))) Tr.bad (Tr.ok (Ex.normal,[(28,AV.bool false,some 1)],af::af::{ lock:=false,bs:=[(0,aj.row (Row.G [AV.yld 1 R])),(0,aj.loop L)] } :: G)))))) (Tr.req (br (ay .i64 p (Int.ofNat 2)) 12) (Tr.req (br (ay .i64 q (Int.ofNat 2)) 12) (Tr.req (kO (al (al 4 (ay .i64 p (Int.ofNat 2)) 12) (ay .i64 q (Int.ofNat 2)) 1) 1 4 144) (Tr.ite (dA (Int.ofNat 1) (kd (fM (al (al 4 (ay .i64 p (Int.ofNat 2)) 12) (ay .i64 q (Int.ofNat 2)) 1) 4))) Tr.bad (Tr.ok (Ex.normal,[(28,AV.bool false,some 1)],af::af::{ lock:=false,bs:=[(0,aj.row (Row.G [AV.yld 1 R])),(0,aj.loop L)] } :: G)))))):=by kernel_rfl
theorem KE (R n:Nat) (tk:Nat) (w:Int) (ls ld:Nat) (zs zd sz kd:Nat→Int) (G G':ae) (p q:Int) (sure b:Bool) (L L':bw):aH (fQ (n+2)) (HP (il aG n 2) 3 R [.int .i64 q] (af::af::aB R [(0,.loop L)]::G) (.ok (.bool b,af::af::aB R [(0,.loop L')]::G'))) aJ aK (part Try.f110 [1,1,1,0,1]) (hints (IG tk w ls ld zs zd sz kd p sure q)) (af::af::aB R [(0,.loop L)]::G) =
 (fun (Z0:b6)=>((fun (Z1:b6)=>Tr.ite sure (Tr.req (br (ay .i64 p (Int.ofNat 2)) 12) (Tr.req (br (ay .i64 q (Int.ofNat 2)) 12) (Tr.req (kO (al (al 4 (ay .i64 p (Int.ofNat 2)) 12) (ay .i64 q (Int.ofNat 2)) 1) 1 4 144) (Tr.ite (dA (Int.ofNat 2) (kd (fM (al (al 4 (ay .i64 p (Int.ofNat 2)) 12) (ay .i64 q (Int.ofNat 2)) 1) 4))) (Tr.reqP (R=R∧[AV.int .i64 q]=[AV.int .i64 q]∧af::af::Z0::G=af::af::Z0::G) (Tr.ite (aD b) (Tr.ok (Ex.ret,[(28,AV.bool true,some 1)],af::af::Z1::G')) (Tr.ok (Ex.normal,[(28,AV.bool false,some 1)],af::af::Z1::G')))) (Tr.ok (Ex.normal,[(28,AV.bool false,some 1)],af::af::Z0::G)))))) (Tr.req (br (ay .i64 p (Int.ofNat 2)) 12) (Tr.req (br (ay .i64 q (Int.ofNat 2)) 12) (Tr.req (kO (al (al 4 (ay .i64 p (Int.ofNat 2)) 12) (ay .i64 q (Int.ofNat 2)) 1) 1 4 144) (Tr.ite (dA (Int.ofNat 1) (kd (fM (al (al 4 (ay .i64 p (Int.ofNat 2)) 12) (ay .i64 q (Int.ofNat 2)) 1) 4))) (Tr.reqP (R=R∧[AV.int .i64 q]=[AV.int .i64 q]∧af::af::Z0::G=af::af::Z0::G) (Tr.ite (aD b) (Tr.ok (Ex.ret,[(28,AV.bool true,some 1)],af::af::Z1::G')) (Tr.ok (Ex.normal,[(28,AV.bool false,some 1)],af::af::Z1::G')))) (Tr.ok (Ex.normal,[(28,AV.bool false,some 1)],af::af::Z0::G))))))) { lock:=false,bs:=[(0,aj.row (Row.G [AV.yld 1 R])),(0,aj.loop L')] })) { lock:=false,bs:=[(0,aj.row (Row.G [AV.yld 1 R])),(0,aj.loop L)] }:=by kernel_rfl
theorem Ot (R n:Nat) (tk:Nat) (w:Int) (ls ld:Nat) (zs zd sz kd:Nat→Int) (G G1:ae) (p:Int) (sure e:Bool):aW Try.prog (cd (n+4)) 100000 110 Try.f110 (Kt.kt 110) (il aG (n+3) 1) aJ (th aK (fun _=>true) (pE tk w ls ld zs zd sz kd p sure) (aB R []::G) (.ite e (.ok (.ret,hints (pE tk w ls ld zs zd sz kd p sure),aB R [(0,.dead)]::G1)) (.ok (.normal,hints (pE tk w ls ld zs zd sz kd p sure),aB R [(0,.dead)]::G1)))) [(.yld 0 R,none),(.ptrT (some 0) (.G [a9 tk w ls ld zs zd sz kd]) 0,none),(.ptrT none (.I .i64 [p]) 0,none),(.ptrT (some 0) (.G [.bool sure]) 0,none)] G =
 (fun (Z0:aO)=>Tr.req (br (ay .i64 p (Int.ofNat 2)) 12) (Tr.req (kO (al 4 (ay .i64 p (Int.ofNat 2)) 12) 12 4 144) (Tr.ite (oN (nv kd (fM (al 4 (ay .i64 p (Int.ofNat 2)) 12) 4)) (fun x=>Int.ofNat 0) 12) (Tr.ok ((AV.tup [],none),G)) (Tr.reqP (Z0=Z0∧{ lock:=false,bs:=[(0,aj.row (Row.G [AV.yld 1 R]))] } :: G={ lock:=false,bs:=[(0,aj.row (Row.G [AV.yld 1 R]))] } :: G) (Tr.ite e (Tr.ok ((AV.tup [],none),G1)) (Tr.ok ((AV.tup [],none),G1))))))) [(1,AV.ptrT (some 1) (Row.G [a9 tk w ls ld zs zd sz kd]) 0),(2,AV.ptrT none (Row.I .i64 [p]) 0),(3,AV.ptrT (some 1) (Row.G [AV.bool sure]) 0),(4,AV.ptr 0 0 0 0),(16,AV.fn (Fn.func 109) [] [AV.ptrT (some 0) (Row.G [AV.ptrT (some (Nat.succ tk)) (Row.M [aC.one (AV.int .i64 w),aC.one (aU 2 ls zs),aC.one (aU 3 ld zd),aC.one (.slcT none (.M [.arr .i64 sz (aI ls 2)]) 2 ls true),aC.arr .i64 kd 144]) 0]) 0])]:=by kernel_rfl
section
variable (R n:Nat) (tk:Nat) (w:Int) (ls ld:Nat) (zs zd sz kd:Nat→Int) (p:Int) (sure:Bool)
structure iK (R n ls:Nat) (kd:Nat→Int) (p:Int) (sure:Bool) (G X:Nat→ae) (go:Nat→Bool):Prop where
 hit:∀ j,j<ls+2→cG kd sure p ((j:Int)-2)=true→∀ L:bw,cd (n+2) (.round 3 R) [.int .i64 ((j:Int)-2)] (af::af::aB R [(0,.loop L)]::G j)=some (.bool (go j),af::af::aB R [(0,.loop L)]::(if go j=true then G (j+1) else X j))
 skip:∀ j,j<ls+2→cG kd sure p ((j:Int)-2)=false→G (j+1)=G j
theorem J7 {G X:Nat→ae} {go:Nat→Bool} (hG:iK R n ls kd p sure G X go) (hp:-2≤p∧p<10) (hls:ls≤10) (j:Nat) (hj:j<ls+2):cd (n+3) (.round 1 1) [.int .i64 ((j:Int)-2)] (af::aB R [(0,.loop (eV tk w ls ld zs zd sz kd p sure))]::G j) =
 some (.bool (!(cG kd sure p ((j:Int)-2) && !go j)),af::aB R [(0,.loop (xn tk w ls ld zs zd sz kd p sure (cG kd sure p ((j:Int)-2) && !go j)))]::(if (cG kd sure p ((j:Int)-2) && !go j)=true then X j else G (j+1))):=by
 have ha:exec (fQ (n+2)) (part Try.f110 [1,1,1,0,0]) (Ln tk w ls ld zs zd sz kd p sure ((j:Int)-2)) (af::af::aB R [(0,.loop (eV tk w ls ld zs zd sz kd p sure))]::G j)=some (.normal,IG tk w ls ld zs zd sz kd p sure ((j:Int)-2),af::af::aB R [(0,.loop (eV tk w ls ld zs zd sz kd p sure))]::G j):=by
  have:=bK (cx:=fQ (n+2)) (bk (n+2)) (part Try.f110 [1,1,1,0,0]) (ah _ _) (ai _ _) (hints (Ln tk w ls ld zs zd sz kd p sure ((j:Int)-2))) (af::af::aB R [(0,.loop (eV tk w ls ld zs zd sz kd p sure))]::G j) _ (by rw[KD];rfl)
  rw[aw] at this
  exact this
 have h2:∀ L:bw,∃ fr',exec (fQ (n+2)) (part Try.f110 [1,1,1,0,1]) (IG tk w ls ld zs zd sz kd p sure ((j:Int)-2)) (af::af::aB R [(0,.loop L)]::G j)=some (cond (cG kd sure p ((j:Int)-2) && !go j) Ex.ret Ex.normal,fr',af::af::aB R [(0,.loop L)]::(if (cG kd sure p ((j:Int)-2) && !go j)=true then X j else G (j+1))):=by
  intro L
  have e1:ay .i64 p (Int.ofNat 2)=p+2:=by rw[aR,show Int.ofNat 2=2 from rfl];exact bX (by omega) (by omega)
  have e2:ay .i64 ((j:Int)-2) (Int.ofNat 2)=(j:Int):=by rw[aR,show Int.ofNat 2=2 from rfl,bX (by omega) (by omega)];omega
  have ei:fM (al (al 4 (p+2) 12) (j:Int) 1) 4=(p+2).toNat*12+j:=by rw[fh,bT,bT];simp;omega
  have eh:cG kd sure p ((j:Int)-2)=decide ((if sure then 2 else 1)≤kd ((p+2).toNat*12+j)):=by unfold cG;rw[show ((j:Int)-2+2).toNat=j by omega]
  cases hh:cG kd sure p ((j:Int)-2) with
  | true =>
    have key:(aH (fQ (n+2)) (HP (il aG n 2) 3 R [.int .i64 ((j:Int)-2)] (af::af::aB R [(0,.loop L)]::G j) (.ok (.bool (go j),af::af::aB R [(0,.loop L)]::(if go j=true then G (j+1) else X j)))) aJ aK (part Try.f110 [1,1,1,0,1]) (hints (IG tk w ls ld zs zd sz kd p sure ((j:Int)-2))) (af::af::aB R [(0,.loop L)]::G j)).all fun x=>x.1=cond (true && !go j) Ex.ret Ex.normal∧x.2.2=af::af::aB R [(0,.loop L)]::(if (true && !go j)=true then X j else G (j+1)):=by
     rw[KE,e1,e2,ei]
     rw[eh,decide_eq_true_eq] at hh
     cases sure<;>simp only[Bool.false_eq_true,if_true,if_false] at hh<;>cases hgo:go j<;>repeat' first | (refine Tr.an (fun hc=>?_) (fun hc=>?_)<;>(try simp (disch:=omega) only[nV,nW] at hc)<;>try omega) | (refine Tr.ao ?_ ?_;· (try simp (disch:=omega) only[nV,nW]);try omega) | (refine Tr.ak ?_ ?_;· first | exact trivial | rfl | exact ⟨rfl,rfl⟩ | exact ⟨rfl,rfl,rfl⟩ | (simp (disch:=omega) only[nV,nW];done) | ((try simp (disch:=omega) only[nV,nW]);omega)) | fail
     all_goals exact Tr.aq ⟨rfl,rfl⟩
    obtain ⟨x,h1,h3,h4⟩:=key
    have:=bK (cx:=fQ (n+2)) (yB (bU n 2) (fun x hx=>by rw[← Tr.ab hx];exact hG.hit j hj hh L)) _ (ah _ _) (ai _ _) _ _ _ h1
    rw[aw] at this
    refine ⟨strip x.2.1,this.trans ?_⟩
    obtain ⟨e,f,g⟩:=x
    dsimp only at h3 h4
    subst h3;subst h4
    rfl
  | false =>
    have key:(aH (fQ (n+2)) (il aG n 2) aJ aK (part Try.f110 [1,1,1,0,1]) (hints (IG tk w ls ld zs zd sz kd p sure ((j:Int)-2))) (af::af::aB R [(0,.loop L)]::G j)).all fun x=>x.1=Ex.normal∧x.2.2=af::af::aB R [(0,.loop L)]::G (j+1):=by
     rw[KF,e1,e2,ei,hG.skip j hj hh]
     rw[eh,decide_eq_false_iff_not] at hh
     cases sure<;>simp only[Bool.false_eq_true,if_true,if_false] at hh<;>repeat' first | (refine Tr.an (fun hc=>?_) (fun hc=>?_)<;>(try simp (disch:=omega) only[nV,nW] at hc)<;>try omega) | (refine Tr.ao ?_ ?_;· (try simp (disch:=omega) only[nV,nW]);try omega) | (refine Tr.ak ?_ ?_;· first | exact trivial | rfl | exact ⟨rfl,rfl⟩ | exact ⟨rfl,rfl,rfl⟩ | (simp (disch:=omega) only[nV,nW];done) | ((try simp (disch:=omega) only[nV,nW]);omega)) | fail
     all_goals exact Tr.aq ⟨rfl,rfl⟩
    obtain ⟨x,h1,h3,h4⟩:=key
    have:=bK (cx:=fQ (n+2)) (bU n 2) _ (ah _ _) (ai _ _) _ _ _ h1
    rw[aw] at this
    refine ⟨strip x.2.1,this.trans ?_⟩
    obtain ⟨e,f,g⟩:=x
    dsimp only at h3 h4
    subst h3;subst h4
    rfl
 obtain ⟨fr',h2⟩:=h2 { eV tk w ls ld zs zd sz kd p sure with state:=.busy }
 have key:=dE (P:=Try.prog) (ora:=mo) (KT:=Kt.kt) (fu:=100000) (n:=n+2) (d:=1) (i:=1) (args:=[.int .i64 ((j:Int)-2)]) (H:=af::aB R [(0,.loop (eV tk w ls ld zs zd sz kd p sure))]::G j) (l:=eV tk w ls ld zs zd sz kd p sure) (l1:=eV tk w ls ld zs zd sz kd p sure) (l2:={ eV tk w ls ld zs zd sz kd p sure with state:=.busy }) (fr:=Ln tk w ls ld zs zd sz kd p sure ((j:Int)-2)) rfl rfl rfl rfl ha rfl rfl h2 rfl
 refine key.trans ?_
 cases (cG kd sure p ((j:Int)-2) && !go j)<;>rfl
def dC (kd:Nat→Int) (sure:Bool) (p:Int) (go:Nat→Bool) (j:Nat):Bool:=cG kd sure p ((j:Int)-2) && !go j
theorem I3 {G X:Nat→ae} {go:Nat→Bool} (hG:iK R n ls kd p sure G X go) (hp:-2≤p∧p<10) (hls:ls≤10):cd (n+4) (.fn 109) [.yld 0 1,.ptrT (some 0) (.G [a9 (tk+1) w ls ld zs zd sz kd]) 0] (aB R [(0,.loop (eV tk w ls ld zs zd sz kd p sure))]::G 0) =
 some (.tup [],aB R [(0,.loop (xn tk w ls ld zs zd sz kd p sure (bD (dC kd sure p go) (ls+2))))]::(if bD (dC kd sure p go) (ls+2)=true then X (fN (dC kd sure p go) (ls+2) 0) else G (ls+2))):=by
 have l:=gV (n:=n+3) (f:=109) (nt:=18) (c:=part Try.f109 [1,0,0]) 0 (fun j=>Ga tk w ls ld zs zd sz kd ((j:Int)-2)) (fun j=>af::aB R [(0,.loop (eV tk w ls ld zs zd sz kd p sure))]::G j) (ls+2) (dC kd sure p go)
  (fun j=>(Ga tk w ls ld zs zd sz kd ((j:Int)-2)++[(17,.bool true)],af::aB R [(0,.loop (xn tk w ls ld zs zd sz kd p sure true))]::X j))
  (Ga tk w ls ld zs zd sz kd (((ls+2:Nat):Int)-2)++[(11,.bool false)],af::aB R [(0,.loop (eV tk w ls ld zs zd sz kd p sure))]::G (ls+2)) (by omega) (fun j hj=>?_) ?_
 · have hb:∃ fA,exec (bF (n+3) 109 18) (.block 0 (.loop (part Try.f109 [1,0,0]))) (Ga tk w ls ld zs zd sz kd (-2)) (af::aB R [(0,.loop (eV tk w ls ld zs zd sz kd p sure))]::G 0)=some (cond (bD (dC kd sure p go) (ls+2)) Ex.ret Ex.normal,fA,af::aB R [(0,.loop (xn tk w ls ld zs zd sz kd p sure (bD (dC kd sure p go) (ls+2))))]::(if bD (dC kd sure p go) (ls+2)=true then X (fN (dC kd sure p go) (ls+2) 0) else G (ls+2))):=by
    cases hc:bD (dC kd sure p go) (ls+2) with
    | true=>rw[hc] at l;exact ⟨_,l⟩
    | false=>rw[hc] at l;exact ⟨_,l⟩
   obtain ⟨fA,hl⟩:=hb
   refine bp (n:=n+3) Try.func109 rfl rfl rfl (Lc (n+3) tk w ls ld zs zd sz kd _ (aB R [(0,.loop (xn tk w ls ld zs zd sz kd p sure (bD (dC kd sure p go) (ls+2))))]::(if bD (dC kd sure p go) (ls+2)=true then X (fN (dC kd sure p go) (ls+2) 0) else G (ls+2))) (bD (dC kd sure p go) (ls+2)) fA) (bk (n+3)) (bf (ah _ _) BK (fun x hx=>?_)) (ai _ _) ?_
   · refine hl.trans ?_
     rcases Tr.bH hx with ⟨hc,hx⟩ | ⟨hc,hx⟩
     · rw[← Tr.ab hx,hc];simp only[dg.st,aw];rfl
     · rw[← Tr.ab hx,hc];simp only[dg.st,aw];rfl
   · refine Tr.ak ⟨rfl,rfl⟩ (Tr.an (fun _=>Tr.aq ⟨rfl,rfl⟩) (fun _=>Tr.aq ⟨rfl,rfl⟩))
 · have hr:=J7 R n tk w ls ld zs zd sz kd p sure hG hp hls j hj
   have ej:ay .i64 ((j:Int)-2) (Int.ofNat 1)=((j+1:Nat):Int)-2:=by rw[aR,show Int.ofNat 1=1 from rfl,bX (by omega) (by omega)];omega
   have hd:dC kd sure p go j=(cG kd sure p ((j:Int)-2) && !go j):=rfl
   rw[← hd] at hr
   refine bz (Ky (n+3) tk w ls ld zs zd sz kd _ (aB R [(0,.loop (xn tk w ls ld zs zd sz kd p sure (dC kd sure p go j)))]::(if dC kd sure p go j=true then X j else G (j+1))) ((j:Int)-2) (!dC kd sure p go j)) (vf (bk (n+3)) (fun x hx=>by rw[← Tr.ab hx];exact hr)) (ah _ _) (ai _ _) ?_
   rw[ej]
   cases dC kd sure p go j
   · repeat' first | (refine Tr.an (fun hc=>?_) (fun hc=>?_)<;>(try simp (disch:=omega) only[nV,nW] at hc)<;>try omega) | (refine Tr.ao ?_ ?_;· (try simp (disch:=omega) only[nV,nW]);try omega) | (refine Tr.ak ?_ ?_;· first | exact trivial | rfl | exact ⟨rfl,rfl⟩ | exact ⟨rfl,rfl,rfl⟩ | (simp (disch:=omega) only[nV,nW];done) | ((try simp (disch:=omega) only[nV,nW]);omega)) | fail
     refine Tr.aq ?_
     rw[if_neg (by simp)]
     exact ⟨rfl,rfl⟩
   · repeat' first | (refine Tr.an (fun hc=>?_) (fun hc=>?_)<;>(try simp (disch:=omega) only[nV,nW] at hc)<;>try omega) | (refine Tr.ao ?_ ?_;· (try simp (disch:=omega) only[nV,nW]);try omega) | (refine Tr.ak ?_ ?_;· first | exact trivial | rfl | exact ⟨rfl,rfl⟩ | exact ⟨rfl,rfl,rfl⟩ | (simp (disch:=omega) only[nV,nW];done) | ((try simp (disch:=omega) only[nV,nW]);omega)) | fail
     refine Tr.aq ?_
     rw[if_pos rfl]
     rfl
 · obtain ⟨x,h1,rfl⟩:=bz (f:=109) (nt:=18) (Q:=fun x=>x=(.exit 0,Ga tk w ls ld zs zd sz kd (((ls+2:Nat):Int)-2)++[(11,.bool false)],af::aB R [(0,.loop (eV tk w ls ld zs zd sz kd p sure))]::G (ls+2))) (H7 (n+3) tk w ls ld zs zd sz kd (aB R [(0,.loop (eV tk w ls ld zs zd sz kd p sure))]::G (ls+2)) (((ls+2:Nat):Int)-2)) (bk (n+3)) (ah _ _) (ai _ _) (by
    repeat' first | (refine Tr.an (fun hc=>?_) (fun hc=>?_)<;>(try simp (disch:=omega) only[nV,nW] at hc)<;>try omega) | (refine Tr.ao ?_ ?_;· (try simp (disch:=omega) only[nV,nW]);try omega) | (refine Tr.ak ?_ ?_;· first | exact trivial | rfl | exact ⟨rfl,rfl⟩ | exact ⟨rfl,rfl,rfl⟩ | (simp (disch:=omega) only[nV,nW];done) | ((try simp (disch:=omega) only[nV,nW]);omega)) | fail
    exact Tr.aq rfl)
   exact h1
theorem J8 {G X:Nat→ae} {go:Nat→Bool} (hG:iK R n ls kd p sure G X go) (hp:-2≤p∧p<10) (hls:ls≤10):exec (bF (n+4) 110 29) (.rangeFunc (.tmp 16) #[17] (part Try.f110 [1,1,1,0,0]) (part Try.f110 [1,1,1,0,1])) (pE tk w ls ld zs zd sz kd p sure) (aB R []::G 0) =
 some (cond (bD (dC kd sure p go) (ls+2)) Ex.ret Ex.normal,pE tk w ls ld zs zd sz kd p sure,aB R [(0,.dead)]::(if bD (dC kd sure p go) (ls+2)=true then X (fN (dC kd sure p go) (ls+2) 0) else G (ls+2))):=by
 have hc:=I3 R n tk w ls ld zs zd sz kd p sure hG hp hls
 cases ha:bD (dC kd sure p go) (ls+2) with
 | true =>
   rw[ha] at hc
   exact c5 (cx:=bF (n+4) 110 29) (l:=xn tk w ls ld zs zd sz kd p sure true) (f:=.tmp 16) (ps:=#[17]) (fr:=pE tk w ls ld zs zd sz kd p sure) (H:=aB R []::G 0) (g:=109) (a:=[]) (b:=[.ptrT (some 0) (.G [a9 (tk+1) w ls ld zs zd sz kd]) 0]) rfl rfl rfl hc rfl rfl rfl
 | false =>
   rw[ha] at hc
   exact c5 (cx:=bF (n+4) 110 29) (l:=xn tk w ls ld zs zd sz kd p sure false) (f:=.tmp 16) (ps:=#[17]) (fr:=pE tk w ls ld zs zd sz kd p sure) (H:=aB R []::G 0) (g:=109) (a:=[]) (b:=[.ptrT (some 0) (.G [a9 (tk+1) w ls ld zs zd sz kd]) 0]) rfl rfl rfl hc rfl rfl rfl
theorem AF {G X:Nat→ae} {go:Nat→Bool} (hG:iK R n ls kd p sure G X go) (hp:-2≤p∧p<ls) (hls:ls≤10):cd (n+5) (.fn 110) (.yld 0 R::gv tk w ls ld zs zd sz kd p sure) (G 0) =
 some (.tup [],if bD (dC kd sure p go) (ls+2)=true then X (fN (dC kd sure p go) (ls+2) 0) else G (ls+2)):=by
 refine bp (n:=n+4) Try.func110 rfl rfl rfl (Ot R n tk w ls ld zs zd sz kd (G 0) (if bD (dC kd sure p go) (ls+2)=true then X (fN (dC kd sure p go) (ls+2) 0) else G (ls+2)) p sure (bD (dC kd sure p go) (ls+2))) (bU (n+3) 1) (ah _ _) (eX (ai _ _) (fun f ps a b _ hm x hx=>?_)) ?_
 · rw[Gk] at hm
   simp only[List.mem_cons,Prod.mk.injEq,List.not_mem_nil,or_false] at hm
   obtain ⟨rfl,rfl,rfl,rfl⟩:=hm
   refine (J8 R n tk w ls ld zs zd sz kd p sure hG (by omega) hls).trans ?_
   rcases Tr.bH hx with ⟨hc,hx⟩ | ⟨hc,hx⟩
   · rw[← Tr.ab hx,hc];simp only[dg.st,aw];rfl
   · rw[← Tr.ab hx,hc];simp only[dg.st,aw];rfl
 · have e1:ay .i64 p (Int.ofNat 2)=p+2:=by rw[aR,show Int.ofNat 2=2 from rfl];exact bX (by omega) (by omega)
   have e2:fM (al 4 (p+2) 12) 4=(p+2).toNat*12:=by rw[fh,bT];omega
   rw[e1,e2]
   refine Tr.ao (by rw[dW];simp;omega) (Tr.ao (by rw[fH,bT];simp;omega) (Tr.an (fun hc=>?_) (fun hc=>?_)))
   · have h0:∀ j,j<ls+2→cG kd sure p ((j:Int)-2)=false:=fun j hj=>by
      have:=(yW _ _ _).1 hc j (by omega)
      rw[jF] at this
      dsimp only at this
      unfold cG
      rw[show ((j:Int)-2+2).toNat=j by omega,this,decide_eq_false_iff_not]
      cases sure<;>decide
     have hn:bD (dC kd sure p go) (ls+2)=false:=by
      cases hq:bD (dC kd sure p go) (ls+2) with
      | false=>rfl
      | true =>
        obtain ⟨j,hj,h1⟩:=(bV _ _).1 hq
        unfold dC at h1
        rw[h0 j hj] at h1;cases h1
     have hs:∀ j,j≤ls+2→G j=G 0:=fun j=>by
      induction j with
      | zero=>intro _;rfl
      | succ j ih=>intro hj;rw[hG.skip j (by omega) (h0 j (by omega)),ih (by omega)]
     rw[hn,if_neg (by simp),hs _ (Nat.le_refl _)]
     exact Tr.aq ⟨rfl,rfl⟩
   · refine Tr.ak ⟨rfl,rfl⟩ (Tr.an (fun _=>Tr.aq ⟨rfl,rfl⟩) (fun _=>Tr.aq ⟨rfl,rfl⟩))
end
end Go.Eng
