/- Gall: slices.Values gone through; slices.Collect; slices.Sorted. -/
import Derived.Test.YtgphpjdchnfjlaaDoorV3Gahx4
import Derived.Test.YtgphpjdchnfjlaaDoorV3EngRnFx7
import Derived.Test.YtgphpjdchnfjlaaDoorV3Ga8x4
set_option linter.unusedVariables false
set_option linter.unusedSimpArgs false
set_option maxRecDepth 100000
section
namespace Go.Eng
open Go.Proofs
noncomputable def iQ (n f nt d i:Nat):Cx:=⟨Tryd.prog,cd n,100000,f,nt,KtG.kt f,some (d,i)⟩
noncomputable def Bv (k:Nat) (P:Nat→Int) (j:Int):aF:=[(0,.yld 1 1),(5,aK k P false),(6,.int .i64 (Int.ofNat k)),(7,.int .i64 j)]
noncomputable def oS (s:Nat) (A:AV):AV:=.fn (.func 96) [] [.ptrT (some s) (.G [A]) 0]
noncomputable def nL (s:Nat) (A:AV):aF:=[(2,.ptr 0 0 0 0),(6,oS (s+1) A)]
noncomputable def Mr (b:Nat×an):bF:=⟨false,[(0,.row (.G [.nils])),b]⟩
noncomputable def Gz (v k:Nat) (a:Nat→Int) (b:Nat×an):bF:=⟨false,[(0,.row (.G [.slc 0 2 v 0 1 k none])),b,(v,.row (.M [.arr .i64 a k]))]⟩
theorem t96 (n k:Nat) (P:Nat→Int) (G G':ab) (j x:Int):aH (bL n 96 16) (Pq (il aD n 0) 1 1 [.int .i64 x] (au::G) (.ok (.bool true,au::G'))) aL aJ (part Tryd.f96 [1,0,0]) (hints (Bv k P j)) (au::G) =
 Tr.ite (bD j (Int.ofNat k)) (Tr.req (cj j k) (Tr.req (bW (aq 0 j 1) k) (Tr.reqP ([AV.int .i64 (P (aq 0 j 1))]=[AV.int .i64 x]∧au::G=au::G) (Tr.ite (bx true) (Tr.ok (Ex.ret,[(0,AV.yld 1 1,none),(5,aK k P false,none),(6,iI k,none),(7,AV.int .i64 j,none),(14,AV.bool true,some 1)],au::G')) (Tr.ok (Ex.normal,[(0,AV.yld 1 1,none),(5,aK k P false,none),(6,iI k,none),(7,AV.int .i64 (bh .i64 j (Int.ofNat 1)),none)],au::G')))))) (Tr.ok (Ex.exit 0,[(0,AV.yld 1 1,none),(5,aK k P false,none),(6,iI k,none),(7,AV.int .i64 j,none),(8,AV.bool false,some 1)],au::G)):=by kernel_rfl
theorem TD (n k:Nat) (P:Nat→Int) (G:ab) (j:Int):aH (bL n 96 16) (il aD n 0) aL aJ (part Tryd.f96 [1,0,0]) (hints (Bv k P j)) (au::G) =
 Tr.ite (bD j (Int.ofNat k)) (Tr.req (cj j k) (Tr.req (bW (aq 0 j 1) k) Tr.bad)) (Tr.ok (Ex.exit 0,[(0,AV.yld 1 1,none),(5,aK k P false,none),(6,iI k,none),(7,AV.int .i64 j,none),(8,AV.bool false,some 1)],au::G)):=by kernel_rfl
theorem YL (n s k:Nat) (P:Nat→Int) (G G':ab):bj Tryd.prog (cd n) 100000 96 Tryd.f96 (KtG.kt 96) (il aD n 0) (cr aL 0 (Bv k P (Int.ofNat 0)) (au::G) (.ok (.normal,hints (Bv k P (Int.ofNat k)++[(8,.bool false)]),au::G'))) aJ [(.yld 0 1,none),(.ptrT (some s) (.G [aK k P false]) 0,none)] G =
 Tr.reqP ([(0,AV.yld 1 1),(5,aK k P false),(6,iI k),(7,iI 0)]=[(0,AV.yld 1 1),(5,aK k P false),(6,iI k),(7,iI 0)]∧au::G=au::G) (Tr.ok ((AV.tup [],none),G')):=by kernel_rfl
theorem KI (n s k:Nat) (P:Nat→Int) (bs:List (Nat×an)) (H:ab) (x:Int):aH (iQ n 100 13 2 1) (il aD n 0) aL aJ (part Tryd.f100 [1,0,1,0,0]) (hints [(2,.ptr 2 0 0 0),(6,oS (s+3) (aK k P false)),(7,.int .i64 x)]) (au::au::⟨false,bs⟩::H) =
 Tr.ok (Ex.normal,[(2,AV.ptr 2 0 0 0,none),(5,AV.int .i64 x,none)],au::au::(bA bs)::H):=by kernel_rfl
theorem Pz (n:Nat) (L:iB) (H:ab) (x:Int):aH (iQ n 100 13 2 1) (il aD n 0) aL aJ (part Tryd.f100 [1,0,1,0,1]) (hints [(2,.ptr 2 0 0 0),(5,.int .i64 x)]) (au::au::Mr (0,.loop L)::H) =
 Tr.req (ie 0 1 8) (Tr.req (cD 0 0) (Tr.req (eR 1 1) (Tr.ok (Ex.normal,[],(bA [(0,an.row (Row.I .i64 [x])),(0,an.dead)])::au::(bA [(0,an.row (Row.G [AV.slc 0 2 0 0 1 1 none])),(0,an.loop L),(0,an.row (rM (az [x]) 1))])::H)))):=by kernel_rfl
theorem PA (n v k:Nat) (b:Nat→Int) (L:iB) (H:ab) (x:Int):aH (iQ n 100 13 2 1) (il aD n 0) aL aJ (part Tryd.f100 [1,0,1,0,1]) (hints [(2,.ptr 2 0 0 0),(5,.int .i64 x)]) (au::au::Gz v k b (0,.loop L)::H) =
 Tr.req (ie k 1 8) (Tr.req (cD 0 0) (Tr.req (eR 1 1) (Tr.req (cD v v) (Tr.req (cD (ar 0 k) k) (Tr.ok (Ex.normal,[],(bA [(0,an.row (Row.I .i64 [x]))])::au::(bA [(0,an.row (Row.G [AV.slc 0 2 (Nat.succ v) 0 1 (ar k 1) none])),(0,an.loop L),(Nat.succ v,an.row (rM (nZ (pZ b 0) k (az [x])) (ar k 1)))])::H)))))):=by kernel_rfl
theorem T5 (n s v k m:Nat) (P b:Nat→Int) (H:ab):aH (bL n 100 13) (il aD n 0) aL (Ib aJ (fun _=>true) (nL s (aK k P false)) (⟨false,[(0,.row (.G [.nils]))]⟩::H) (.ok (.normal,hints (nL s (aK k P false)),Gz v m b (0,.dead)::H))) (aV Tryd.f100) (hints [(0,.nils),(1,oS (s+1) (aK k P false))]) (au::H) =
 (fun (Z0:aF)=>Tr.reqP (Z0=Z0∧(bA [(0,an.row (Row.G [AV.nils]))])::H=(bA [(0,an.row (Row.G [AV.nils]))])::H) (Tr.ok (Ex.ret,[(4,AV.slc 0 2 v 0 1 m none,none)],(bA [(0,an.row (Row.G [AV.slc 0 2 v 0 1 m none])),(0,an.dead),(v,an.row (rM b m))])::H))) [(2,AV.ptr 0 0 0 0),(6,AV.fn (Fn.func 96) [] [AV.ptrT (some (Nat.succ s)) (Row.G [aK k P false]) 0])]:=by kernel_rfl
theorem Qg (n s k:Nat) (P:Nat→Int) (H:ab):bj Tryd.prog (cd n) 100000 100 Tryd.f100 (KtG.kt 100) (il aD n 0) aL (Ib aJ (fun _=>true) (nL s (aK k P false)) (⟨false,[(0,.row (.G [.nils]))]⟩::H) (.ok (.normal,hints (nL s (aK k P false)),Mr (0,.dead)::H))) [(.nils,none),(oS s (aK k P false),none)] H =
 (fun (Z0:aF)=>Tr.reqP (Z0=Z0∧(bA [(0,an.row (Row.G [AV.nils]))])::H=(bA [(0,an.row (Row.G [AV.nils]))])::H) (Tr.ok ((AV.nils,none),H))) [(2,AV.ptr 0 0 0 0),(6,AV.fn (Fn.func 96) [] [AV.ptrT (some (Nat.succ s)) (Row.G [aK k P false]) 0])]:=by kernel_rfl
theorem Ql (n s k:Nat) (P:Nat→Int) (H:ab):aH (bL n 100 13) (il aD n 0) aL (Ib aJ (fun _=>true) (nL s (aK k P false)) (⟨false,[(0,.row (.G [.nils]))]⟩::H) (.ok (.normal,hints (nL s (aK k P false)),Mr (0,.dead)::H))) (aV Tryd.f100) (hints [(0,.nils),(1,oS (s+1) (aK k P false))]) (au::H) =
 (fun (Z0:aF)=>Tr.reqP (Z0=Z0∧(bA [(0,an.row (Row.G [AV.nils]))])::H=(bA [(0,an.row (Row.G [AV.nils]))])::H) (Tr.ok (Ex.ret,[(4,AV.nils,none)],(bA [(0,an.row (Row.G [AV.nils])),(0,an.dead)])::H))) [(2,AV.ptr 0 0 0 0),(6,AV.fn (Fn.func 96) [] [AV.ptrT (some (Nat.succ s)) (Row.G [aK k P false]) 0])]:=by kernel_rfl
theorem YO (n s k m:Nat) (P b:Nat→Int) (H:ab):aH (bL n 94 5) (il (vE aD 100 [.nils,oS (s+1) (aK k P false)] (au::H) (.ok (.slc 0 0 0 0 1 m none,gl 0 m b::H))) n 0) aL aJ (aV Tryd.f94) (hints [(0,oS (s+1) (aK k P false))]) (au::H) =
 (fun (Z0:List AV)=>Tr.reqP (Z0=Z0∧au::H=au::H) (Tr.ok (Ex.ret,[(2,AV.slc 0 0 0 0 1 m none,none)],(bA [(0,an.row (rM b m))])::H))) [AV.nils,AV.fn (Fn.func 96) [] [AV.ptrT (some (Nat.succ s)) (Row.G [aK k P false]) 0]]:=by kernel_rfl
theorem TZ (n s k:Nat) (P:Nat→Int) (H:ab):bj Tryd.prog (cd n) 100000 94 Tryd.f94 (KtG.kt 94) (il (vE aD 100 [.nils,oS (s+1) (aK k P false)] (au::H) (.ok (.nils,au::H))) n 0) aL aJ [(oS s (aK k P false),none)] H =
 (fun (Z0:List AV)=>Tr.reqP (Z0=Z0∧au::H=au::H) (Tr.ok ((AV.nils,none),H))) [AV.nils,AV.fn (Fn.func 96) [] [AV.ptrT (some (Nat.succ s)) (Row.G [aK k P false]) 0]]:=by kernel_rfl
theorem T6 (n s k:Nat) (P:Nat→Int) (H:ab):aH (bL n 94 5) (il (vE aD 100 [.nils,oS (s+1) (aK k P false)] (au::H) (.ok (.nils,au::H))) n 0) aL aJ (aV Tryd.f94) (hints [(0,oS (s+1) (aK k P false))]) (au::H) =
 (fun (Z0:List AV)=>Tr.reqP (Z0=Z0∧au::H=au::H) (Tr.ok (Ex.ret,[(2,AV.nils,none)],au::H))) [AV.nils,AV.fn (Fn.func 96) [] [AV.ptrT (some (Nat.succ s)) (Row.G [aK k P false]) 0]]:=by kernel_rfl
theorem Yy (n s k:Nat) (P b c:Nat→Int) (H:ab):bj Tryd.prog (cd n) 100000 75 Tryd.f75 (KtG.kt 75) (il (vE (vE aD 94 [oS (s+1) (aK k P false)] (au::H) (.ok (.slc 0 0 0 0 1 k none,gl 0 k b::H))) 95 [.slc 0 0 0 0 1 k none] (gl 0 k b::H) (.ok (.tup [],gl 0 k c::H))) n 0) aL aJ [(oS s (aK k P false),none)] H =
 Tr.reqP ([AV.fn (Fn.func 96) [] [AV.ptrT (some (Nat.succ s)) (Row.G [aK k P false]) 0]]=[AV.fn (Fn.func 96) [] [AV.ptrT (some (Nat.succ s)) (Row.G [aK k P false]) 0]]∧au::H=au::H) (Tr.reqP ([AV.slc 0 0 0 0 1 k none]=[AV.slc 0 0 0 0 1 k none]∧(bA [(0,an.row (rM b k))])::H=(bA [(0,an.row (rM b k))])::H) (Tr.req (cD 0 0) (Tr.req (eD 0 k 0 k) (Tr.ok ((aK k (pZ c 0) false,none),H))))):=by kernel_rfl
theorem TV (n s k:Nat) (P:Nat→Int) (H:ab):bj Tryd.prog (cd n) 100000 75 Tryd.f75 (KtG.kt 75) (il (vE (vE aD 94 [oS (s+1) (aK k P false)] (au::H) (.ok (.nils,au::H))) 95 [.nils] (au::H) (.ok (.tup [],au::H))) n 0) aL aJ [(oS s (aK k P false),none)] H =
 Tr.reqP ([AV.fn (Fn.func 96) [] [AV.ptrT (some (Nat.succ s)) (Row.G [aK k P false]) 0]]=[AV.fn (Fn.func 96) [] [AV.ptrT (some (Nat.succ s)) (Row.G [aK k P false]) 0]]∧au::H=au::H) (Tr.reqP ([AV.nils]=[AV.nils]∧au::H=au::H) (Tr.ok ((AV.nils,none),H))):=by kernel_rfl
theorem Yz (n k:Nat) (P:Nat→Int) (H:ab):bj Tryd.prog (cd n) 100000 76 Tryd.f76 (KtG.kt 76) (il aD n 0) aL aJ [(aK k P false,none)] H =
 Tr.ok ((AV.fn (Fn.func 96) [] [AV.ptrT (some 0) (Row.G [aK k P false]) 0],none),H):=by kernel_rfl
theorem T2 (n:Nat) (H:ab):bj Tryd.prog (cd (n+9)) 100000 95 Tryd.f95 (KtG.kt 95) (il aD n 9) aL aJ [(.nils,none)] H =
 Tr.ok ((AV.tup [],none),H):=by kernel_rfl
theorem Vv:∀ b,(0,b) ∈ aE (aV Tryd.f96)→b=.loop (part Tryd.f96 [1,0,0]):=dz (by kernel_rfl)
section
variable (n s k:Nat) (P:Nat→Int)
theorem V4 (St:Nat→ab) (hk:k≤1000) (hr:∀ j,j<k→cd n (.round 1 1) [.int .i64 (P j)] (au::St j)=some (.bool true,au::St (j+1))) :
 cd (n+1) (.fn 96) [.yld 0 1,.ptrT (some s) (.G [aK k P false]) 0] (St 0)=some (.tup [],St k):=by
 have hx:=iG (n:=n) (f:=96) (nt:=16) (c:=part Tryd.f96 [1,0,0]) 0 (fun j=>Bv k P (j:Int)) (fun j=>au::St j) k (Bv k P (Int.ofNat k)++[(8,.bool false)],au::St k) (by omega) (fun j hj=>?_) ?_
 · refine br (n:=n) Tryd.func96 rfl rfl rfl (YL n s k P (St 0) (St k)) (av _) (aP (ai _ _) Vv (fun x h=>by rw[← Tr.af h];simp only[eI.st,aT];exact hx)) (aj _ _) ?_
   exact Tr.ak ⟨rfl,rfl⟩ (Tr.ag ⟨rfl,rfl⟩)
 · refine ay (t96 n k P (St j) (St (j+1)) (j:Int) (P j)) (BY (av n) (fun x hy=>by rw[← Tr.af hy];exact hr j hj)) (ai _ _) (aj _ _) ?_
   rw[qt,dJ (by omega)]
   generalize St (j+1)=G' at *
   generalize St j=G at *
   exact wF
 · obtain ⟨x,h1,rfl⟩:=ay (Q:=fun x=>x=(.exit 0,Bv k P (Int.ofNat k)++[(8,.bool false)],au::St k)) (TD n k P (St k) (Int.ofNat k)) (av n) (ai _ _) (aj _ _) (by
    refine Tr.ae (fun hc=>?_) (fun hc=>Tr.ag rfl);simp (disch:=omega) only[nV,nW] at hc;omega)
   exact h1
end
theorem zN {n d i:Nat} {args:List AV} {H H2 R:ab} {l l2:iB} {fr fr1 fr2:aF} {lv:bF}
 (hg:aA H d i=(0,.loop l)) (hl:aN H d=false) (hs:l.state=.ready) (hp:jK l.nt (kL (d+1) l.fr) l.params (args.map (mU 1))=some fr)
 (h1:exec (iQ n l.fn l.nt (d+1) i) l.assign fr (au::H)=some (.normal,fr1,au::H))
 (h2:exec (iQ n l.fn l.nt (d+1) i) l.body fr1 (dF (au::H) (d+1) i (0,.loop { l with state:=.busy }))=some (.normal,fr2,lv::H2)) (hg2:aA H2 d i=(0,.loop l2)) (hR:R=dF H2 d i (0,.loop { l2 with state:=.ready,pending:=none })) :
 cd (n+1) (.round d i) args H=some (.bool true,R):=by
 rw[hR]
 exact zO (P:=Tryd.prog) (ora:=ia) (KT:=KtG.kt) (fu:=100000) (e:=.normal) hg hl hs hp h1 (by rw[show aA (au::H) (d+1) i=aA H d i from rfl];exact hg) hs h2 hg2
theorem iZ {n f nt d i:Nat} {c:Code} {callR:bt} {bl:eS} {rg:nY} {fr:aF} {H:ab} {T:Tr eI} (e:aH (iQ n f nt d i) callR bl rg c (hints fr) H=T) (hC:callR.Ok (cd n)) (hB:bl.Ok (iQ n f nt d i) c) (hR:rg.Ok (iQ n f nt d i) c) {y:Ex×aF×ab} (h:T.all fun x=>x.st=y):exec (iQ n f nt d i) c fr H=some y:=by
 obtain ⟨x,h1,rfl⟩:=h;have:=fU (cx:=iQ n f nt d i) hC c hB hR (hints fr) H x (by rw[e];exact h1);rw[aT] at this;exact this
theorem od {n f nt d i:Nat} {c:Code} {callR:bt} {bl:eS} {rg:nY} {fr:aF} {H:ab} {T:Tr eI} {Q:Ex×aF×ab→Prop} (e:aH (iQ n f nt d i) callR bl rg c (hints fr) H=T) (hC:callR.Ok (cd n)) (hB:bl.Ok (iQ n f nt d i) c) (hR:rg.Ok (iQ n f nt d i) c) (h:T.all fun x=>Q x.st):∃ y,exec (iQ n f nt d i) c fr H=some y∧Q y:=by
 obtain ⟨x,h1,h2⟩:=h;have:=fU (cx:=iQ n f nt d i) hC c hB hR (hints fr) H x (by rw[e];exact h1);rw[aT] at this;exact ⟨_,this,h2⟩
noncomputable def qA:Code:=part Tryd.f100 [1,0,1,0,0]
noncomputable def xh:Code:=part Tryd.f100 [1,0,1,0,1]
theorem Tb:dP (aV Tryd.f100)=[(.tmp 6,#[7],qA,xh)]:=by kernel_rfl
noncomputable def dX (s:Nat) (A:AV):iB:={ state:=.ready,pending:=none,fn:=100,nt:=13,fr:=nL s A,params:=[7],assign:=qA,body:=xh }
noncomputable def O4 (b:Nat×an):List Int→bF
 | []=>Mr b
 | a::r=>Gz r.length (r.length+1) (az (a::r)) b
theorem Pn (n s k:Nat) (P:Nat→Int) (L:List Int) (H:ab) (x:Int) (hL:L.length≤1000) :
 cd (n+1) (.round 1 1) [.int .i64 x] (au::O4 (0,.loop (dX s (aK k P false))) L::H)=some (.bool true,au::O4 (0,.loop (dX s (aK k P false))) (L++[x])::H):=by
 cases L with
 | nil =>
   have h1:exec (iQ n 100 13 2 1) qA [(2,.ptr 2 0 0 0),(6,oS (s+3) (aK k P false)),(7,.int .i64 x)] (au::au::Mr (0,.loop (dX s (aK k P false)))::H)=some (.normal,[(2,.ptr 2 0 0 0),(5,.int .i64 x)],au::au::Mr (0,.loop (dX s (aK k P false)))::H) :=
    iZ (KI n s k P _ H x) (av n) (ai _ _) (aj _ _) (Tr.ag rfl)
   obtain ⟨y,h2,h3⟩:=od (Q:=fun y=>y=(.normal,[],⟨false,[(0,.row (.I .i64 [x])),(0,.dead)]⟩::au::Gz 0 1 (az [x]) (0,.loop { dX s (aK k P false) with state:=.busy })::H)) (Pz n { dX s (aK k P false) with state:=.busy } H x) (av n) (ai _ _) (aj _ _) (by
    generalize dX s (aK k P false)=L at *;exact wF)
   subst h3
   exact zN (l:=dX s (aK k P false)) (l2:={ dX s (aK k P false) with state:=.busy }) rfl rfl rfl rfl h1 h2 rfl rfl
 | cons a r =>
   simp only[List.length_cons] at hL
   have h1:exec (iQ n 100 13 2 1) qA [(2,.ptr 2 0 0 0),(6,oS (s+3) (aK k P false)),(7,.int .i64 x)] (au::au::Gz r.length (r.length+1) (az (a::r)) (0,.loop (dX s (aK k P false)))::H)=some (.normal,[(2,.ptr 2 0 0 0),(5,.int .i64 x)],au::au::Gz r.length (r.length+1) (az (a::r)) (0,.loop (dX s (aK k P false)))::H) :=
    iZ (KI n s k P _ H x) (av n) (ai _ _) (aj _ _) (Tr.ag rfl)
   have e1:=nh (a::r) x
   simp only[List.length_cons] at e1
   have e3:ar (r.length+1) 1=r.length+1+1:=by rw[aI]
   obtain ⟨y,h2,h3⟩:=od (Q:=fun y=>y=(.normal,[],⟨false,[(0,.row (.I .i64 [x]))]⟩::au::Gz (r.length+1) (r.length+1+1) (az (a::r++[x])) (0,.loop { dX s (aK k P false) with state:=.busy })::H)) (PA n r.length (r.length+1) (az (a::r)) { dX s (aK k P false) with state:=.busy } H x) (av n) (ai _ _) (aj _ _) (by
    rw[e1,e3];generalize dX s (aK k P false)=L at *;generalize az (a::r++[x])=Y at *;exact wF)
   subst h3
   have e4:(r++[x]).length=r.length+1:=by simp
   refine zN (l:=dX s (aK k P false)) (l2:={ dX s (aK k P false) with state:=.busy }) rfl rfl rfl rfl h1 h2 rfl ?_
   show au::Gz (r++[x]).length ((r++[x]).length+1) (az (a::(r++[x]))) _::H=_
   rw[e4];rfl
def j8 (P:Nat→Int) (k:Nat):List Int:=(List.range k).map P
theorem JD (P:Nat→Int) (k:Nat):j8 P (k+1)=j8 P k++[P k]:=by unfold j8;rw[List.range_succ,List.map_append];rfl
theorem iO (P:Nat→Int) (k:Nat):(j8 P k).length=k:=by simp[j8]
theorem G8 {n f:Nat} {args:List AV} {H:ab} {x:AV×ab} (hf:f=94∨f=100) (h:nR Tryd.prog KtG.kt 100000 f (cd n) args H=some x):cd (n+1) (.fn f) args H=some x:=by
 refine o5 ?_;have e:ia (cd n) f args H=(match nR Tryd.prog KtG.kt 100000 f (cd n) args H with
  | some x=>some x
  | none=>tM [⟨15,[],.bool true⟩] (cd n) f args H):=by rcases hf with rfl | rfl<;>rfl
 rw[e,h]
theorem G7 {n f:Nat} {args:List AV} {H:ab} (hf:f=94∨f=100) (h:nR Tryd.prog KtG.kt 100000 f (cd n) args H=none):ia (cd n) f args H=none:=by
 have e:ia (cd n) f args H=(match nR Tryd.prog KtG.kt 100000 f (cd n) args H with
  | some x=>some x
  | none=>tM [⟨15,[],.bool true⟩] (cd n) f args H):=by rcases hf with rfl | rfl<;>rfl
 rw[e,h];rcases hf with rfl | rfl<;>exact KA rfl rfl _ _ _
theorem F9 {n f:Nat} {args:List AV} {l1:bF} {H:ab} {fn:Func} {c:Code} (h94:f=94∨f=100) (hf:Tryd.prog.funcs[f]?=some fn) (hb:fn.body=some c) (hle:Nat.ble args.length fn.ntmps=true) {e:Ex} {fr:aF} {l:bF} {j ver off sz len:Nat} {cap:Option Nat} {q:Row}
 (h:exec (bL n f fn.ntmps) c (ev 0 args) (⟨false,[]⟩::l1::H)=some (e,fr,l::l1::H)) (he:e=.normal∨e=.ret) (hv:gE Tryd.prog fr (l::l1::H) fn.results.toList=some [.slc 0 j ver off sz len cap]) (hq:cX (l::l1::H) 0 j ver=some q) (h0:l.lock=false) (h1:l1.lock=false) :
 cd (n+1) (.fn f) args (l1::H)=some (.slc 0 l1.bs.length 0 off sz len cap,bC (l1::H) 0 (.row (jt 1 q))):=by
 refine G8 h94 ?_
 unfold nR
 rw[hf];dsimp only
 rw[hb];dsimp only
 rw[if_pos hle,eN]
 rw[show exec (⟨Tryd.prog,cd n,100000,f,fn.ntmps,KtG.kt f,none⟩:Cx) c (ev 0 args) (⟨false,[]⟩::l1::H)=_ from h]
 dsimp only
 rcases he with rfl | rfl<;>(simp only[hv,hq,h0,h1,Bool.or_self,Bool.false_eq_true,if_false])
theorem CR {n f:Nat} {args:List HV} {l1:bF} {H:ab} {fn:Func} {c:Code} (h94:f=94∨f=100) (hf:Tryd.prog.funcs[f]?=some fn) (hb:fn.body=some c) (hle:Nat.ble args.length fn.ntmps=true) {e:Ex} {fr:aF} {l:bF}
 (h:exec (bL n f fn.ntmps) c (ev 0 (jU args)) (⟨false,[]⟩::l1::H)=some (e,fr,l::l1::H)) (he:e=.normal∨e=.ret) (hv:gE Tryd.prog fr (l::l1::H) fn.results.toList=some [.nils])
 {callR:bt} {bl:eS} {rg:nY} {T:Tr (HV×ab)} (et:bj Tryd.prog (cd n) 100000 f fn (KtG.kt f) callR bl rg args (l1::H)=T) (hC:callR.Ok (cd n)) (hB:bl.Ok (bL n f fn.ntmps) (aV fn)) (hR:rg.Ok (bL n f fn.ntmps) (aV fn)) (hT:T.all fun y=>y.1.1=.nils∧y.2=l1::H):cd (n+1) (.fn f) (jU args) (l1::H)=some (.nils,l1::H):=by
 have hl:(jU args).length=args.length:=by unfold jU;rw[jG];exact List.length_map ..
 have ho:nR Tryd.prog KtG.kt 100000 f (cd n) (jU args) (l1::H)=none:=by
  unfold nR;rw[hf];dsimp only;rw[hb];dsimp only;rw[if_pos (by rw[hl];exact hle),eN];rw[show exec (⟨Tryd.prog,cd n,100000,f,fn.ntmps,KtG.kt f,none⟩:Cx) c (ev 0 (jU args)) (⟨false,[]⟩::l1::H)=_ from h];dsimp only;rcases he with rfl | rfl<;>simp only[hv]
 obtain ⟨y,h1,h2,h3⟩:=hT
 have:=oZ hf (by rw[hb];rfl) (G7 h94 ho) hle hC hB hR (show (bj Tryd.prog (cd n) 100000 f fn (KtG.kt f) callR bl rg args (l1::H)).run=some y by rw[et];exact h1)
 rw[h2,h3] at this
 exact this
section
variable (n s k:Nat) (P:Nat→Int) (H:ab)
theorem Nw (hk:k≤1000):exec (bL (n+2) 100 13) (.rangeFunc (.tmp 6) #[7] qA xh) (nL s (aK k P false)) (⟨false,[(0,.row (.G [.nils]))]⟩::H)=some (.normal,nL s (aK k P false),dS (O4 (0,.loop (dX s (aK k P false))) (j8 P k)::H) 0 1) :=
 tW (cx:=bL (n+2) 100 13) (l:=dX s (aK k P false)) (f:=.tmp 6) (ps:=#[7]) (fr:=nL s (aK k P false)) (H:=⟨false,[(0,.row (.G [.nils]))]⟩::H) (g:=96) (a:=[]) (b:=[.ptrT (some (s+1)) (.G [aK k P false]) 0]) rfl rfl rfl
  (V4 (n+1) (s+1) k P (fun j=>O4 (0,.loop (dX s (aK k P false))) (j8 P j)::H) hk (fun j hj=>by
    show _=some (_,au::O4 _ (j8 P (j+1))::H);rw[JD];exact Pn n s k P (j8 P j) H (P j) (by rw[iO];omega))) (by
    cases e:j8 P k with
    | nil=>rfl
    | cons a r=>rfl) rfl rfl
theorem G0 {c:Nat} {fr:aF} {G:ab} {Y:eI} (hx:exec (bL c 100 13) (.rangeFunc (.tmp 6) #[7] qA xh) fr G=some Y.st):(Ib aJ (fun _=>true) fr G (.ok Y)).Ok (bL c 100 13) (aV Tryd.f100) :=
 B0 (aj _ _) (fun f ps a b _ hm x hx2=>by
  rw[Tb] at hm;simp only[List.mem_cons,Prod.mk.injEq,List.not_mem_nil,or_false] at hm;obtain ⟨rfl,rfl,rfl,rfl⟩:=hm;rw[← Tr.af hx2];exact hx)
theorem QQ (hk:k≤1000) (hk1:1≤k):cd (n+3) (.fn 100) [.nils,oS s (aK k P false)] (au::H)=some (.slc 0 0 0 0 1 k none,gl 0 k (az (j8 P k))::H):=by
 have hx:=Nw n s k P (au::H) hk;have hl:=iO P k;cases e:j8 P k with
 | nil=>rw[e] at hl;simp at hl;omega
 | cons a r =>
   rw[e] at hx hl;have hr:r.length+1=k:=by simpa using hl
   obtain ⟨x,hb,rfl⟩:=ay (Q:=fun x=>x=(.ret,[(4,.slc 0 2 r.length 0 1 (r.length+1) none)],Gz r.length (r.length+1) (az (a::r)) (0,.dead)::au::H)) (T5 (n+2) s r.length k (r.length+1) P (az (a::r)) (au::H)) (av _) (ai _ _) (G0 (by simp only[eI.st,aT];exact hx)) (by
    exact wF)
   have e8:Tryd.f100.ntmps=13:=by kernel_rfl
   have eb:Tryd.f100.body=some (aV Tryd.f100):=by kernel_rfl
   have er:Tryd.f100.results.toList=[.tmp 4]:=by kernel_rfl
   have:=F9 (n:=n+2) (fn:=Tryd.f100) (c:=aV Tryd.f100) (args:=[.nils,oS s (aK k P false)]) (l1:=au) (H:=H) (.inr rfl) Tryd.func100 eb (by rw[e8];rfl) (e:=.ret) (fr:=[(4,.slc 0 2 r.length 0 1 (r.length+1) none)]) (l:=Gz r.length (r.length+1) (az (a::r)) (0,.dead)) (j:=2) (ver:=r.length) (q:=.M [.arr .i64 (az (a::r)) (r.length+1)]) (by rw[e8];exact hb) (.inr rfl) (by rw[er];rfl) (by unfold Gz;simp[cX,aA,aw]) rfl rfl;rw[hr] at this;exact this
theorem Ke:cd (n+3) (.fn 100) [.nils,oS s (aK 0 P false)] (au::H)=some (.nils,au::H):=by
 have hx:=Nw n s 0 P (au::H) (by omega);obtain ⟨x,hb,rfl⟩:=ay (Q:=fun x=>x=(.ret,[(4,.nils)],Mr (0,.dead)::au::H)) (Ql (n+2) s 0 P (au::H)) (av _) (ai _ _) (G0 (by simp only[eI.st,aT];exact hx)) (by
  exact wF)
 have e8:Tryd.f100.ntmps=13:=by kernel_rfl
 have eb:Tryd.f100.body=some (aV Tryd.f100):=by kernel_rfl
 have er:Tryd.f100.results.toList=[.tmp 4]:=by kernel_rfl
 refine CR (n:=n+2) (fn:=Tryd.f100) (c:=aV Tryd.f100) (l1:=au) (H:=H) (.inr rfl) Tryd.func100 eb (by rw[e8];rfl) (by rw[e8];exact hb) (.inr rfl) (by rw[er];rfl) (Qg (n+2) s 0 P (au::H)) (av _) (ai _ _) (G0 (by simp only[eI.st,aT];exact Nw n s 0 P (au::H) (by omega))) ?_;exact wF
theorem V2 (hk:k≤1000) (hk1:1≤k):cd (n+4) (.fn 94) [oS s (aK k P false)] (au::H)=some (.slc 0 0 0 0 1 k none,gl 0 k (az (j8 P k))::H):=by
 obtain ⟨x,hb,rfl⟩:=ay (Q:=fun x=>x=(.ret,[(2,.slc 0 0 0 0 1 k none)],gl 0 k (az (j8 P k))::au::H)) (YO (n+3) s k k P (az (j8 P k)) (au::H)) (bo _ _ (ew (aW _) (fun x hx=>by rw[← Tr.af hx];exact QQ n (s+1) k P (au::H) hk hk1))) (ai _ _) (aj _ _) (by
  exact wF)
 have e8:Tryd.f94.ntmps=5:=by kernel_rfl
 have eb:Tryd.f94.body=some (aV Tryd.f94):=by kernel_rfl
 have er:Tryd.f94.results.toList=[.tmp 2]:=by kernel_rfl
 exact F9 (n:=n+3) (fn:=Tryd.f94) (c:=aV Tryd.f94) (args:=[oS s (aK k P false)]) (l1:=au) (H:=H) (.inl rfl) Tryd.func94 eb (by rw[e8];rfl) (e:=.ret) (fr:=[(2,.slc 0 0 0 0 1 k none)]) (l:=gl 0 k (az (j8 P k))) (j:=0) (ver:=0) (q:=.M [.arr .i64 (az (j8 P k)) k]) (by rw[e8];exact hb) (.inr rfl) (by rw[er];rfl) (by unfold gl;simp[cX,aA,aw]) rfl rfl
theorem QZ:cd (n+4) (.fn 94) [oS s (aK 0 P false)] (au::H)=some (.nils,au::H):=by
 obtain ⟨x,hb,rfl⟩:=ay (Q:=fun x=>x=(.ret,[(2,.nils)],au::au::H)) (T6 (n+3) s 0 P (au::H)) (bo _ _ (ew (aW _) (fun x hx=>by rw[← Tr.af hx];exact Ke n (s+1) P (au::H)))) (ai _ _) (aj _ _) (by
  exact wF)
 have e8:Tryd.f94.ntmps=5:=by kernel_rfl
 have eb:Tryd.f94.body=some (aV Tryd.f94):=by kernel_rfl
 have er:Tryd.f94.results.toList=[.tmp 2]:=by kernel_rfl
 refine CR (n:=n+3) (fn:=Tryd.f94) (c:=aV Tryd.f94) (l1:=au) (H:=H) (.inl rfl) Tryd.func94 eb (by rw[e8];rfl) (by rw[e8];exact hb) (.inr rfl) (by rw[er];rfl) (TZ (n+3) s 0 P (au::H)) (bo _ _ (ew (aW _) (fun x hx=>by rw[← Tr.af hx];exact Ke n (s+1) P (au::H)))) (ai _ _) (aj _ _) ?_;exact wF
theorem I6 (A:List Int):((List.range A.length).map fun q=>az A (0+q))=A:=by
 apply List.ext_getElem (by simp);intro i h1 h2;simp only[List.getElem_map,List.getElem_range,Nat.zero_add,qE,List.getD_eq_getElem?_getD,List.getElem?_eq_getElem h2,Option.getD_some]
theorem lF (L:List Int):(gm L).length=L.length:=List.length_mergeSort L
theorem M8 (A:List Int):Fk gm (az A) 0 A.length=az (gm A):=by
 funext x;have hl:(gm A).length=A.length:=lF A;unfold Fk;rw[I6,qE,qE];by_cases h:x<A.length
 · rw[if_pos (by omega),Nat.sub_zero]
 · rw[if_neg (by omega),List.getD_eq_getElem?_getD,List.getD_eq_getElem?_getD,List.getElem?_eq_none (by omega),List.getElem?_eq_none (by omega)]
theorem V3 (k:Nat) (a:Nat→Int) (h1:0<k) (h2:k<4611686018427387904):cd (n+1) (.fn 95) [.slc 0 0 0 0 1 k none] (gl 0 k a::H)=some (.tup [],gl 0 k (Fk gm a 0 k)::H):=by
 refine o5 ?_;show Hp gm [.slc 0 0 0 0 1 k none] (gl 0 k a::H)=_;rw[show Hp gm [.slc 0 0 0 0 1 k none] (gl 0 k a::H)=(if aN (gl 0 k a::H) 0=false∧0<k∧k<4611686018427387904∧0+k≤k then some (.tup [],dF (gl 0 k a::H) 0 0 (0,.row (.M [.arr .i64 (Fk gm a 0 k) k]))) else none) from rfl];rw[if_pos ⟨rfl,h1,h2,by omega⟩];rfl
noncomputable def Nf (P:Nat→Int) (k:Nat):AV:=dA (gm (j8 P k))
theorem VQ (hk:k≤1000):cd (n+11) (.fn 75) [oS s (aK k P false)] H=some (Nf P k,H):=by
 cases k with
 | zero =>
   have h95:cd (n+10) (.fn 95) [.nils] (au::H)=some (.tup [],au::H):=by
    refine pg (n:=n+9) Tryd.func95 rfl (fun _ _=>rfl) rfl (T2 n (au::H)) (fa n 9) (ai _ _) (aj _ _) ?_;exact Tr.ag ⟨rfl,rfl⟩
   have e0:Nf P 0=.nils:=by
    have h:gm (j8 P 0)=[]:=List.eq_nil_of_length_eq_zero (by rw[lF,iO]);unfold Nf;rw[h];rfl
   rw[e0];refine br (n:=n+10) Tryd.func75 rfl rfl rfl (TV (n+10) s 0 P H) (bo _ _ (ew (ew (aW _) (fun x hx=>by rw[← Tr.af hx];exact QZ (n+6) (s+1) P H)) (fun x hx=>by rw[← Tr.af hx];exact h95))) (ai _ _) (aj _ _) ?_;exact wF
 | succ k =>
   have e:Nf P (k+1)=aK (k+1) (az (gm (j8 P (k+1)))) false:=Kg _ k (by rw[lF,iO]);have h95:=V3 (n+9) H (k+1) (az (j8 P (k+1))) (by omega) (by omega);have er:=M8 (j8 P (k+1));rw[iO] at er;rw[er] at h95;rw[e];refine br (n:=n+10) Tryd.func75 rfl rfl rfl (Yy (n+10) s (k+1) P (az (j8 P (k+1))) (az (gm (j8 P (k+1)))) H) (bo _ _ (ew (ew (aW _) (fun x hx=>by rw[← Tr.af hx];exact V2 (n+6) (s+1) (k+1) P H hk (by omega))) (fun x hx=>by rw[← Tr.af hx];exact h95))) (ai _ _) (aj _ _) ?_;rw[fq];exact wF
theorem VR:cd (n+1) (.fn 76) [aK k P false] H=some (oS 0 (aK k P false),H):=by
 refine br (n:=n) Tryd.func76 rfl rfl rfl (Yz n k P H) (av _) (ai _ _) (aj _ _) ?_;exact Tr.ag ⟨rfl,rfl⟩
end
end Go.Eng
end
section
namespace Go.Eng
open Go.Proofs Go.Eng.Gall
noncomputable def uR (m:Nat) (z S:Nat→Int) (R:Row) (j:Int):aF:=[(1,aK m z false),(2,.ptr 0 0 0 0),(5,.ptrT none R 0),(7,aK m S false),(26,aK m S false),(27,.int .i64 (Int.ofNat m)),(28,.int .i64 j)]
noncomputable def wP (m:Nat) (z:Nat→Int) (R:Row) (j:Int):aF:=[(1,aK m z false),(5,.ptrT none R 0),(43,aK m z false),(44,.int .i64 (Int.ofNat m)),(45,.int .i64 j)]
noncomputable def yr (m:Nat) (z:Nat→Int) (R:Row) (X j:Int):aF:=[(5,.ptrT none R 0),(12,.int .u64 X),(56,aK m z false),(57,.int .i64 (Int.ofNat m)),(58,.int .i64 j)]
theorem TO (n:Nat) (dr:Int) (lc:Nat) (zc:Nat→Int) (lb:Nat) (zb:Nat→Int) (W B:Nat→Int) (G:ab) (C:List AV→Prop):bj Tryd.prog (cd (n+2)) 100000 49 Tryd.f49 (KtG.kt 49) (il (lX (tX aD 22 [bn dr lc zc lb zb] (.int .i64 (Int.ofNat 0))) 62 (fun x=>some (C x,shV dr lc zc lb zb W B))) n 2) aL aJ [(bn dr lc zc lb zb,none),(.nils,none)] G =
 Tr.reqP ([bn dr lc zc lb zb]=[bn dr lc zc lb zb]) (Tr.ite (bx (cw (Int.ofNat 0) (Int.ofNat 0))) (Tr.ok ((AV.tup [AV.nilp,iI 0],none),G)) (Tr.reqP (C [bn dr lc zc lb zb]) (Tr.ok ((AV.tup [shV dr lc zc lb zb W B,iI 0],none),G)))):=by kernel_rfl
theorem Yv (n:Nat) (dr:Int) (lc:Nat) (zc:Nat→Int) (lb:Nat) (zb:Nat→Int) (W B:Nat→Int) (G:ab) (c p:Int):bj Tryd.prog (cd n) 100000 71 Tryd.f71 (KtG.kt 71) (il aD n 0) aL aJ [(shV dr lc zc lb zb W B,none),(.int .i64 c,none),(.int .i64 p,none)] G =
 Tr.req (cj c 10) (Tr.req (eD (aq 3 c 2) 1 3 20) (Tr.req (eD (ar (aq 3 c 2) 1) 1 3 20) (Tr.ite (c8 (W (dC (aq 3 c 2) 3)) p) (Tr.ok ((AV.bool (c8 p (W (dC (ar (aq 3 c 2) 1) 3))),none),G)) (Tr.ok ((AV.bool false,some 1),G))))):=by kernel_rfl
theorem PF (n:Nat) (r:Row) (G:ab) (m:Nat) (z S:Nat→Int) (R:Row) (j:Int):aH (bL n 39 76) (il aD n 0) aL aJ (part Tryd.f39 [1,1,1,1,0,1,0,0]) (hints (uR m z S R j)) (⟨false,[(0,.row r)]⟩::G) =
 Tr.ite (bD j (Int.ofNat m)) (Tr.req (cj j m) (Tr.req (bW (aq 0 j 1) m) (Tr.ite (bx (cw (S (aq 0 j 1)) j)) (Tr.ok (Ex.ret,[(4,iI 15,some 1)],(bA [(0,an.row r)])::G)) (Tr.ok (Ex.normal,[(1,aK m z false,none),(2,AV.ptr 0 0 0 0,none),(5,AV.ptrT none R 0,none),(7,aK m S false,none),(26,aK m S false,none),(27,iI m,none),(28,AV.int .i64 (bh .i64 j (Int.ofNat 1)),none)],(bA [(0,an.row r)])::G))))) (Tr.ok (Ex.exit 0,[(1,aK m z false,none),(2,AV.ptr 0 0 0 0,none),(5,AV.ptrT none R 0,none),(7,aK m S false,none),(26,aK m S false,none),(27,iI m,none),(28,AV.int .i64 j,none),(29,AV.bool false,some 1)],(bA [(0,an.row r)])::G)):=by kernel_rfl
theorem Tm (n:Nat) (r:Row) (G:ab) (m:Nat) (z:Nat→Int) (R:Row) (j:Int) (c:Int) (q:Bool):aH (bL n 39 76) (il (tX aD 71 [(.ptrT none R 0),.int .i64 c,.int .i64 j] (.bool q)) n 0) aL aJ (part Tryd.f39 [1,1,1,1,1,1,0,1,0,0]) (hints (wP m z R j)) (⟨false,[(0,.row r)]⟩::G) =
 Tr.ite (bD j (Int.ofNat m)) (Tr.req (cj j m) (Tr.req (bW (aq 0 j 1) m) (Tr.reqP ([AV.ptrT none R 0,AV.int .i64 (z (aq 0 j 1)),AV.int .i64 j]=[AV.ptrT none R 0,AV.int .i64 c,AV.int .i64 j]) (Tr.ite (bx q) (Tr.ok (Ex.ret,[(4,iI 21,some 1)],(bA [(0,an.row r)])::G)) (Tr.ok (Ex.normal,[(1,aK m z false,none),(5,AV.ptrT none R 0,none),(43,aK m z false,none),(44,iI m,none),(45,AV.int .i64 (bh .i64 j (Int.ofNat 1)),none)],(bA [(0,an.row r)])::G)))))) (Tr.ok (Ex.exit 2,[(1,aK m z false,none),(5,AV.ptrT none R 0,none),(43,aK m z false,none),(44,iI m,none),(45,AV.int .i64 j,none),(46,AV.bool false,some 1)],(bA [(0,an.row r)])::G)):=by kernel_rfl
theorem PG (n:Nat) (r:Row) (G:ab) (m:Nat) (z:Nat→Int) (R:Row) (j:Int):aH (bL n 39 76) (il aD n 0) aL aJ (part Tryd.f39 [1,1,1,1,1,1,0,1,0,0]) (hints (wP m z R j)) (⟨false,[(0,.row r)]⟩::G) =
 Tr.ite (bD j (Int.ofNat m)) (Tr.req (cj j m) (Tr.req (bW (aq 0 j 1) m) Tr.bad)) (Tr.ok (Ex.exit 2,[(1,aK m z false,none),(5,AV.ptrT none R 0,none),(43,aK m z false,none),(44,iI m,none),(45,AV.int .i64 j,none),(46,AV.bool false,some 1)],(bA [(0,an.row r)])::G)):=by kernel_rfl
theorem PH (n:Nat) (dr:Int) (lc:Nat) (zc:Nat→Int) (lb:Nat) (zb:Nat→Int) (W B:Nat→Int) (r:Row) (G:ab) (m:Nat) (z:Nat→Int) (X j:Int):aH (bL n 39 76) (il aD n 0) aL aJ (part Tryd.f39 [1,1,1,1,1,1,1,1,0,1,0,0]) (hints (yr m z (shR dr lc zc lb zb W B) X j)) (⟨false,[(0,.row r)]⟩::G) =
 Tr.ite (bD j (Int.ofNat m)) (Tr.req (cj j m) (Tr.req (bW (aq 0 j 1) m) (Tr.req (cj (z (aq 0 j 1)) 10) (Tr.req (eD (aq 23 (z (aq 0 j 1)) 1) 1 23 10) (Tr.ite (bx (cw (AY IntKind.u64 (B (dC (aq 23 (z (aq 0 j 1)) 1) 23)) X) (Int.ofNat 0))) (Tr.ok (Ex.ret,[(4,iI 16,some 1)],(bA [(0,an.row r)])::G)) (Tr.req (c8 (Int.ofNat 0) (z (aq 0 j 1))) (Tr.ok (Ex.normal,[(5,shV dr lc zc lb zb W B,none),(12,AV.int IntKind.u64 (sa IntKind.u64 X (eh IntKind.u64 (Int.ofNat 1) (z (aq 0 j 1)))),none),(56,aK m z false,none),(57,iI m,none),(58,AV.int .i64 (bh .i64 j (Int.ofNat 1)),none)],(bA [(0,an.row r)])::G)))))))) (Tr.ok (Ex.exit 4,[(5,shV dr lc zc lb zb W B,none),(12,AV.int IntKind.u64 X,none),(56,aK m z false,none),(57,iI m,none),(58,AV.int .i64 j,none),(59,AV.bool false,some 1)],(bA [(0,an.row r)])::G)):=by kernel_rfl
theorem Yi (n:Nat) (dr:Int) (lc:Nat) (zc:Nat→Int) (lb:Nat) (zb:Nat→Int) (H:ab) (m:Nat) (z S:Nat→Int) (R:Row) (e q r:Bool) (X:Int):bj Tryd.prog (cd n) 100000 39 Tryd.f39 (KtG.kt 39) (il (tX (tX (tX aD 49 [bn dr lc zc lb zb,.nils] (.tup [.ptrT none R 0,.int .i64 (Int.ofNat 0)])) 76 [aK m z false] (oS 0 (aK m z false))) 75 [oS 0 (aK m z false)] (aK m S false)) n 0) (cr (cr (cr aL 0 (uR m z S R (Int.ofNat 0)) (dq dr lc zc lb zb::H) (.ite e (.ok (.ret,[(4,.int .i64 (Int.ofNat 15),none)],dq dr lc zc lb zb::H)) (.ok (.normal,hints (uR m z S R (Int.ofNat m)++[(29,.bool false)]),dq dr lc zc lb zb::H)))) 2 (wP m z R (Int.ofNat 0)) (dq dr lc zc lb zb::H) (.ite q (.ok (.ret,[(4,.int .i64 (Int.ofNat 21),none)],dq dr lc zc lb zb::H)) (.ok (.normal,hints (wP m z R (Int.ofNat m)++[(46,.bool false)]),dq dr lc zc lb zb::H)))) 4 (yr m z R (Int.ofNat 0) (Int.ofNat 0)) (dq dr lc zc lb zb::H) (.ite r (.ok (.ret,[(4,.int .i64 (Int.ofNat 16),none)],dq dr lc zc lb zb::H)) (.ok (.normal,hints (yr m z R X (Int.ofNat m)++[(59,.bool false)]),dq dr lc zc lb zb::H)))) aJ [(bn dr lc zc lb zb,none),(aK m z false,none)] H =
 (fun (Z0:bF)=>((fun (Z1:aF)=>((fun (Z2:aF)=>((fun (Z3:aF)=>Tr.reqP ([bn dr lc zc lb zb,AV.nils]=[bn dr lc zc lb zb,AV.nils]) (Tr.ite (bx (cw (Int.ofNat 0) (Int.ofNat 0))) (Tr.ok ((iI 0,none),H)) (Tr.reqP ([aK m z false]=[aK m z false]) (Tr.reqP ([AV.fn (Fn.func 96) [] [AV.ptrT (some 0) (Row.G [aK m z false]) 0]]=[AV.fn (Fn.func 96) [] [AV.ptrT (some 0) (Row.G [aK m z false]) 0]]) (Tr.reqP (Z1=Z1∧Z0::H=Z0::H) (Tr.ite e (Tr.ok ((iI 15,none),H)) (Tr.ite (bx (cw (Int.ofNat m) (Int.ofNat lc))) (Tr.ok ((iI 15,some 1),H)) (Tr.reqP (Z3=Z3∧Z0::H=Z0::H) (Tr.ite q (Tr.ok ((iI 21,none),H)) (Tr.reqP (Z2=Z2∧Z0::H=Z0::H) (Tr.ite r (Tr.ok ((iI 16,none),H)) (Tr.ok ((iI 0,some 1),H))))))))))))) [(1,aK m z false),(5,AV.ptrT none R 0),(43,aK m z false),(44,iI m),(45,iI 0)])) [(5,AV.ptrT none R 0),(12,AV.int IntKind.u64 (Int.ofNat 0)),(56,aK m z false),(57,iI m),(58,iI 0)])) [(1,aK m z false),(2,AV.ptr 0 0 0 0),(5,AV.ptrT none R 0),(7,aK m S false),(26,aK m S false),(27,iI m),(28,iI 0)])) (bA [(0,dh dr lc zc lb zb)]):=by kernel_rfl
theorem TL (n:Nat) (dr:Int) (lc:Nat) (zc:Nat→Int) (lb:Nat) (zb:Nat→Int) (H:ab) (m:Nat) (z S:Nat→Int) (R:Row) (e:Bool):bj Tryd.prog (cd n) 100000 39 Tryd.f39 (KtG.kt 39) (il (tX (tX (tX aD 49 [bn dr lc zc lb zb,.nils] (.tup [.ptrT none R 0,.int .i64 (Int.ofNat 0)])) 76 [aK m z false] (oS 0 (aK m z false))) 75 [oS 0 (aK m z false)] (aK m S false)) n 0) (eF (eF (cr aL 0 (uR m z S R (Int.ofNat 0)) (dq dr lc zc lb zb::H) (.ite e (.ok (.ret,[(4,.int .i64 (Int.ofNat 15),none)],dq dr lc zc lb zb::H)) (.ok (.normal,hints (uR m z S R (Int.ofNat m)++[(29,.bool false)]),dq dr lc zc lb zb::H)))) 2) 4) aJ [(bn dr lc zc lb zb,none),(aK m z false,none)] H =
 (fun (Z0:aF)=>Tr.reqP ([bn dr lc zc lb zb,AV.nils]=[bn dr lc zc lb zb,AV.nils]) (Tr.ite (bx (cw (Int.ofNat 0) (Int.ofNat 0))) (Tr.ok ((iI 0,none),H)) (Tr.reqP ([aK m z false]=[aK m z false]) (Tr.reqP ([AV.fn (Fn.func 96) [] [AV.ptrT (some 0) (Row.G [aK m z false]) 0]]=[AV.fn (Fn.func 96) [] [AV.ptrT (some 0) (Row.G [aK m z false]) 0]]) (Tr.reqP (Z0=Z0∧(bA [(0,dh dr lc zc lb zb)])::H=(bA [(0,dh dr lc zc lb zb)])::H) (Tr.ite e (Tr.ok ((iI 15,none),H)) (Tr.ite (bx (cw (Int.ofNat m) (Int.ofNat lc))) (Tr.ok ((iI 15,some 1),H)) Tr.bad))))))) [(1,aK m z false),(2,AV.ptr 0 0 0 0),(5,AV.ptrT none R 0),(7,aK m S false),(26,aK m S false),(27,iI m),(28,iI 0)]:=by kernel_rfl
theorem Ti (n:Nat) (dr:Int) (lc:Nat) (zc:Nat→Int) (lb:Nat) (zb:Nat→Int) (H:ab) (m:Nat) (z S:Nat→Int) (R:Row):bj Tryd.prog (cd n) 100000 39 Tryd.f39 (KtG.kt 39) (il (tX (tX (tX aD 49 [bn dr lc zc lb zb,.nils] (.tup [.ptrT none R 0,.int .i64 (Int.ofNat 0)])) 76 [aK 0 z false] (oS 0 (aK 0 z false))) 75 [oS 0 (aK 0 z false)] .nils) n 0) (eF (eF aL 2) 4) aJ [(bn dr lc zc lb zb,none),(aK 0 z false,none)] H =
 Tr.reqP ([bn dr lc zc lb zb,AV.nils]=[bn dr lc zc lb zb,AV.nils]) (Tr.ite (bx (cw (Int.ofNat 0) (Int.ofNat 0))) (Tr.ok ((iI 0,none),H)) (Tr.reqP ([aK 0 z false]=[aK 0 z false]) (Tr.reqP ([AV.fn (Fn.func 96) [] [AV.ptrT (some 0) (Row.G [aK 0 z false]) 0]]=[AV.fn (Fn.func 96) [] [AV.ptrT (some 0) (Row.G [aK 0 z false]) 0]]) (Tr.ite (bx (cw (Int.ofNat 0) (Int.ofNat lc))) (Tr.ok ((iI 15,some 1),H)) Tr.bad)))):=by kernel_rfl
end Go.Eng
end
section
namespace Go.Eng
open Go.Proofs Go.Eng.Gall
def x8 (z:Nat→Int) (lc m:Nat):Bool:=decide (m=lc) && !cC (fun i=>!(decide (0≤z i) && decide (z i<lc)) || cC (fun j=>decide (z j=z i)) i) m
theorem ir {p:Nat→Bool} {k:Nat}:cC p k=false↔∀ j,j<k→p j=false:=⟨iE,F4⟩
theorem gd {z:Nat→Int} {lc m:Nat}:x8 z lc m=true↔m=lc∧∀ i,i<m→(0≤z i∧z i<lc)∧∀ j,j<i→z j≠z i:=by
 unfold x8;rw[Bool.and_eq_true,decide_eq_true_iff,Bool.not_eq_true',ir];constructor
 · rintro ⟨h1,h2⟩;refine ⟨h1,fun i hi=>?_⟩;have:=h2 i hi;rw[Bool.or_eq_false_iff,ir,Bool.not_eq_false',Bool.and_eq_true,decide_eq_true_iff,decide_eq_true_iff] at this;exact ⟨this.1,fun j hj=>by simpa using this.2 j hj⟩
 · rintro ⟨h1,h2⟩;refine ⟨h1,fun i hi=>?_⟩;obtain ⟨h3,h4⟩:=h2 i hi;rw[Bool.or_eq_false_iff,ir,Bool.not_eq_false',Bool.and_eq_true,decide_eq_true_iff,decide_eq_true_iff];exact ⟨h3,fun j hj=>by simpa using h4 j hj⟩
theorem B4 {z:Nat→Int} {m:Nat} {x:Int}:x ∈ j8 z m↔∃ i,i<m∧z i=x:=by simp[j8]
theorem zR {z:Nat→Int} {m:Nat}:(j8 z m).Nodup↔∀ i,i<m→∀ j,j<i→z j≠z i:=by
 unfold j8;rw[List.Nodup,List.pairwise_map,List.pairwise_iff_getElem];simp only[List.length_range,List.getElem_range];constructor
 · intro h i hi j hj;exact h j i (by omega) hi hj
 · intro h j i hj hi hji;exact h i hi j hji
theorem zY (L:List Int):(gm L).Perm L:=List.mergeSort_perm _ _
theorem Nh (L:List Int):(gm L).Pairwise (·≤·):=by
 have:=List.pairwise_mergeSort (le:=fun x y:Int=>decide (x≤y)) (by intro a b c h1 h2;simp at *;omega) (by intro a b;simp;omega) L;refine this.imp (fun h=>?_);simpa using h
theorem Gw {m:Nat} {f:Nat→Int} (h0:∀ j,j<m→0≤f j) (hs:∀ i j,i<j→j<m→f i<f j):∀ j,j<m→(j:Int)≤f j
 | 0,h=>h0 0 h
 | j+1,h=>by
   have h1:=Gw h0 hs j (by omega);have h2:=hs j (j+1) (by omega) h;omega
theorem inc_le {m:Nat} {f:Nat→Int} (h0:∀ j,j<m→f j<m) (hs:∀ i j,i<j→j<m→f i<f j):∀ t j,j+t+1=m→f j≤j
 | 0,j,h=>by have:=h0 j (by omega);omega
 | t+1,j,h=>by
   have h1:=inc_le h0 hs t (j+1) (by omega);have h2:=hs j (j+1) (by omega) (by omega);omega
theorem HD {z:Nat→Int} {lc m:Nat}:(cC (fun j=>!decide (az (gm (j8 z m)) j=(j:Int))) m=false∧m=lc)↔x8 z lc m=true:=by
 have hl:(gm (j8 z m)).length=m:=by rw[lF,iO]
 have hp:=zY (j8 z m);have hs:=Nh (j8 z m);rw[gd,ir];generalize gm (j8 z m)=L at *;constructor
 · rintro ⟨h1,h2⟩;have he:∀ j,(hj:j<L.length)→L[j]=(j:Int):=fun j hj=>by
    have:=h1 j (by omega);rw[Bool.not_eq_false',decide_eq_true_iff,mD L j hj] at this;exact this
   have hn:L.Nodup:=by
    rw[List.Nodup,List.pairwise_iff_getElem];intro i j hi hj hij;rw[he i hi,he j hj];omega
   have hn2:=zR.1 (hp.nodup_iff.1 hn);refine ⟨h2,fun i hi=>⟨?_,hn2 i hi⟩⟩;have:z i ∈ L:=hp.mem_iff.2 (B4.2 ⟨i,hi,rfl⟩);obtain ⟨k,hk,hk2⟩:=List.mem_iff_getElem.1 this;rw[← hk2,he k hk];omega
 · rintro ⟨h1,h2⟩;refine ⟨fun j hj=>?_,h1⟩;have hn:L.Nodup:=hp.nodup_iff.2 (zR.2 fun i hi=>(h2 i hi).2);have hb:∀ x ∈ L,0≤x∧x<lc:=fun x hx=>by
    obtain ⟨i,hi,rfl⟩:=B4.1 (hp.mem_iff.1 hx);exact (h2 i hi).1
   have hgs:∀ i j,i<j→j<m→az L i<az L j:=fun i j hij hj=>by
    have a1:=(List.pairwise_iff_getElem.1 hs) i j (by omega) (by omega) hij;have a2:=(List.pairwise_iff_getElem.1 hn) i j (by omega) (by omega) hij;rw[mD L i (by omega),mD L j (by omega)];have a1:L[i]≤L[j]:=a1;have a2:L[i]≠L[j]:=a2;omega
   have hg:∀ j,j<m→0≤az L j∧az L j<m:=fun j hj=>by
    rw[mD L j (by omega)];have:=hb _ (List.getElem_mem (l:=L) (n:=j) (by omega));omega
   have e1:=Gw (fun j hj=>(hg j hj).1) hgs j hj;have e2:=inc_le (fun j hj=>(hg j hj).2) hgs (m-1-j) j (by omega);rw[Bool.not_eq_false',decide_eq_true_iff];omega
def lW (z:Nat→Int) (m:Nat):List Nat:=(List.range m).map fun j=>(z j).toNat
theorem JE (z:Nat→Int) (m:Nat):lW z (m+1)=lW z m++[(z m).toNat]:=by unfold lW;rw[List.range_succ,List.map_append];rfl
theorem jN {z:Nat→Int} {m x:Nat}:x ∈ lW z m↔∃ i,i<m∧(z i).toNat=x:=by simp[lW]
theorem qN {z:Nat→Int} {m lc:Nat} (h:x8 z lc m=true):∀ k,k≤m→(lW z k).Nodup:=fun k hk=>by
 obtain ⟨h1,h2⟩:=gd.1 h;unfold lW;rw[List.Nodup,List.pairwise_map,List.pairwise_iff_getElem];simp only[List.length_range,List.getElem_range];intro j i hj hi hji;have a:=(h2 i (by omega)).1;have b:=(h2 j (by omega)).1;have c:=(h2 i (by omega)).2 j hji;omega
theorem nj {L:List Nat} (hn:L.Nodup) {n:Nat} (h:∀ x ∈ L,x<n):mask L<2 ^ n:=by
 refine Nat.lt_pow_two_of_testBit _ fun i hi=>?_;rw[cN hn];exact decide_eq_false fun hm=>by have:=h i hm;omega
theorem G9 {z:Nat→Int} {m lc:Nat} (h:x8 z lc m=true) {a:Nat} (ha:a<lc):∃ i,i<m∧z i=(a:Int):=by
 obtain ⟨h1,h2⟩:=gd.1 h;have h3:=(HD (z:=z) (lc:=lc) (m:=m)).2 h;have h4:=ir.1 h3.1 a (by omega);rw[Bool.not_eq_false',decide_eq_true_iff] at h4;have hl:(gm (j8 z m)).length=m:=by rw[lF,iO]
 rw[mD _ a (by omega)] at h4;have:(a:Int) ∈ gm (j8 z m):=by rw[← h4];exact List.getElem_mem _
 exact B4.1 ((zY _).mem_iff.1 this)
def vo (W:Nat→Int) (c:Int) (p:Int):Bool:=decide (W (2*c.toNat)≤p) && decide (p≤W (2*c.toNat+1))
noncomputable def Kv (B:Nat→Int) (z:Nat→Int) (j:Nat):Bool:=!cw (AY .u64 (B (z j).toNat) (mask (lW z j):Int)) (Int.ofNat 0)
def Kb (lb:Nat) (zb:Nat→Int) (z:Nat→Int) (i:Nat):Bool:=cC (fun j=>pI lb zb (z i) (z j)) i
theorem pJ {lb lc:Nat} {zb:Nat→Int} (hp:fi lc lb zb) (a c:Nat):pI lb zb (a:Int) (c:Int)=(cH zb c lb).testBit a:=by
 unfold pI;rw[Bool.eq_iff_iff,cQ,jz zb c a lb (fun i hi=>(hp i hi).1.1)];constructor
 · rintro ⟨i,hi,he⟩;unfold iq at he;rw[Bool.and_eq_true,decide_eq_true_iff,decide_eq_true_iff] at he;exact ⟨i,hi,he.1.symm,he.2.symm⟩
 · rintro ⟨i,hi,he⟩;refine ⟨i,hi,?_⟩;unfold iq;rw[Bool.and_eq_true,decide_eq_true_iff,decide_eq_true_iff];exact ⟨he.1.symm,he.2.symm⟩
theorem DD {dr:Int} {lc:Nat} {zc:Nat→Int} {lb:Nat} {zb:Nat→Int} (h:dg dr lc zc lb zb=0) (a:Int):pI lb zb a a=false:=by
 unfold pI;refine F4 fun j hj=>?_;unfold dg at h;split at h
 · cases h
 · rename_i h1;split at h
   · cases h
   · rename_i h2;split at h
     · cases h
     · rename_i h3;have h3:cC (gw lc zb) lb=false:=by simpa using h3
       have:=iE h3 j hj;unfold gw at this;rw[Bool.or_eq_false_iff,decide_eq_false_iff_not] at this;unfold iq;rw[Bool.and_eq_false_iff,decide_eq_false_iff_not,decide_eq_false_iff_not];have:=this.1;omega
theorem OS {lb lc m:Nat} {zb:Nat→Int} {z:Nat→Int} (hp:fi lc lb zb) (hs:∀ a,pI lb zb a a=false) (hl:lc≤10) (hm:x8 z lc m=true):cC (Kv (fR lb zb) z) m=cC (Kb lb zb z) m:=by
 obtain ⟨h1,h2⟩:=gd.1 hm;have key:∀ j,j<m→(Kv (fR lb zb) z j=true↔∃ i,j<i∧i<m∧pI lb zb (z i) (z j)=true):=fun j hj=>by
  have hn:=qN hm j (by omega);have hlt:∀ x ∈ lW z j,x<lc:=fun x hx=>by
   obtain ⟨i,hi,rfl⟩:=jN.1 hx;have:=(h2 i (by omega)).1;omega
  have hc:=(h2 j hj).1;have hb:cH zb (z j).toNat lb<2 ^ lc:=qd zb _ lc lb fun i hi=>(hp i hi).1;have hb2:cH zb (z j).toNat lb<2 ^ 62:=Nat.lt_of_lt_of_le hb (Nat.pow_le_pow_right (by omega) (by omega));have hX2:mask (lW z j)<2 ^ 62:=Nat.lt_of_lt_of_le (nj hn hlt) (Nat.pow_le_pow_right (by omega) (by omega));obtain ⟨w,hw,hw2⟩:=QD hb2 hX2;unfold Kv;rw[show fR lb zb (z j).toNat=(cH zb (z j).toNat lb:Int) from rfl,hw,aQ];have e1:(!((w:Int) == Int.ofNat 0))=true↔w≠0:=by simp
  rw[e1];constructor
  · intro hw0;obtain ⟨a,ha⟩:=Nat.exists_testBit_of_ne_zero hw0;rw[hw2,Bool.and_eq_true,cN hn,Bool.not_eq_true',decide_eq_false_iff_not] at ha;have hal:a<lc:=by
     refine Nat.lt_of_not_le fun hge=>?_;rw[Nat.testBit_lt_two_pow (Nat.lt_of_lt_of_le hb (Nat.pow_le_pow_right (by omega) hge))] at ha;cases ha.1
    obtain ⟨i,hi,hia⟩:=G9 hm hal;have hpr:pI lb zb (z i) (z j)=true:=by
     rw[hia,show z j=((z j).toNat:Int) by omega,pJ hp];exact ha.1
    refine ⟨i,?_,hi,hpr⟩;rcases Nat.lt_trichotomy i j with q | q | q
    · exact absurd (jN.2 ⟨i,q,by omega⟩) ha.2
    · subst q;rw[hs] at hpr;cases hpr
    · exact q
  · rintro ⟨i,hij,hi,hpr⟩;have hzi:=(h2 i hi).1;intro hw0;have:=hw2 (z i).toNat
    rw[hw0,Nat.zero_testBit,cN hn] at this;rw[show z i=((z i).toNat:Int) by omega,show z j=((z j).toNat:Int) by omega,pJ hp] at hpr;rw[hpr,Bool.true_and] at this;have hmem:(z i).toNat ∈ lW z j:=by
     cases hd:decide ((z i).toNat ∈ lW z j) with
     | true=>exact of_decide_eq_true hd
     | false=>rw[hd] at this;cases this
    obtain ⟨k,hk,hk2⟩:=jN.1 hmem;have hzk:=(h2 k (by omega)).1;exact (h2 i hi).2 k (by omega) (by omega)
 rw[Bool.eq_iff_iff,cQ,cQ];constructor
 · rintro ⟨j,hj,h⟩;obtain ⟨i,hij,hi,hpr⟩:=(key j hj).1 h;exact ⟨i,hi,(cQ _ _).2 ⟨j,hij,hpr⟩⟩
 · rintro ⟨i,hi,h⟩;obtain ⟨j,hij,hpr⟩:=(cQ _ _).1 h;exact ⟨j,by omega,(key j (by omega)).2 ⟨i,hij,hi,hpr⟩⟩
noncomputable def yg (lc:Nat) (W:Nat→Int) (lb:Nat) (zb:Nat→Int) (m:Nat) (z:Nat→Int):Int:=if x8 z lc m=true then (if cC (fun j=>!vo W (z j) j) m=true then 21 else if cC (Kb lb zb z) m=true then 16 else 0) else 15
end Go.Eng
end
section
namespace Go.Eng
open Go.Proofs Go.Eng.Gall
end Go.Eng
end
section
namespace Go.Eng
open Go.Proofs Go.Eng.Gall
theorem Vs:∀ b,(0,b) ∈ aE (aV Tryd.f89)→b=.loop (part Tryd.f89 [1,0,1,0,0]):=dz (by kernel_rfl)
theorem kg {dr:Int} {lc:Nat} {zc:Nat→Int} {lb:Nat} {zb:Nat→Int} (h:dg dr lc zc lb zb=0):(1≤lc∧lc≤10)∧lb≤40∧(1≤dr∧dr≤100)∧p8 lc zc∧fi lc lb zb∧lS lc (fun c=>cH zb c lb)=false:=by
 unfold dg at h;split at h
 · cases h
 · rename_i h1;split at h
   · cases h
   · rename_i h2;split at h
     · cases h
     · rename_i h3;split at h
       · cases h
       · rename_i h4;exact ⟨by omega,by omega,by omega,iE (by simpa using fun q=>h2 (.inr (.inr q))),pU (by simpa using h3),by simpa using h4⟩
section
variable (n:Nat) (dr:Int) (lc:Nat) (zc:Nat→Int) (lb:Nat) (zb:Nat→Int) (H:ab)
end
end Go.Eng
end
