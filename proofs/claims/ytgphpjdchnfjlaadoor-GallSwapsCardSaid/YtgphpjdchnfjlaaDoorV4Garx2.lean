/- Gall: slices.Values gone through; slices.Collect; slices.Sorted. -/
import Derived.Test.YtgphpjdchnfjlaaDoorV4Gabx10
import Derived.Test.YtgphpjdchnfjlaaDoorV4EngRnFx7
set_option linter.unusedVariables false
set_option linter.unusedSimpArgs false
set_option maxRecDepth 100000
section
namespace Go.Eng
open Go.Proofs
noncomputable def jG (n f nt d i:Nat):Cx:=⟨Tryd.prog,cd n,100000,f,nt,KtG.kt f,some (d,i)⟩
noncomputable def zj (k:Nat) (P:Nat→Int) (j:Int):au:=[(0,.yld 1 1),(5,bF k P false),(6,.int .i64 (Int.ofNat k)),(7,.int .i64 j)]
noncomputable def nr (s:Nat) (A:AV):AV:=.fn (.func 96) [] [.ptrT (some s) (.G [A]) 0]
noncomputable def mC (s:Nat) (A:AV):au:=[(2,.ptr 0 0 0 0),(6,nr (s+1) A)]
noncomputable def Jk (b:Nat×az):bH:=⟨false,[(0,.row (.G [.nils])),b]⟩
noncomputable def DU (v k:Nat) (a:Nat→Int) (b:Nat×az):bH:=⟨false,[(0,.row (.G [.slc 0 2 v 0 1 k none])),b,(v,.row (.M [.arr .i64 a k]))]⟩
theorem t96 (n k:Nat) (P:Nat→Int) (G G':aa) (j x:Int):aT (b5 n 96 16) (MC (il aV n 0) 1 1 [.int .i64 x] (aC::G) (.ok (.bool true,aC::G'))) bc ba (part Tryd.f96 [1,0,0]) (hints (zj k P j)) (aC::G) =
 (fun (Z0:Nat×AV×Option Nat)=>Tr.ite (cY j (Int.ofNat k)) (Tr.req (c7 j k) (Tr.req (cI (aM 0 j 1) k) (Tr.reqP ([AV.int .i64 (P (aM 0 j 1))]=[AV.int .i64 x]∧aC::G=aC::G) (Tr.ite (bz true) (Tr.ok (Ex.ret,[(0,AV.yld 1 1,none),Z0,(6,AV.int .i64 (Int.ofNat k),none),(7,AV.int .i64 j,none),(14,AV.bool true,some 1)],aC::G')) (Tr.ok (Ex.normal,[(0,AV.yld 1 1,none),Z0,(6,AV.int .i64 (Int.ofNat k),none),(7,AV.int .i64 (bf .i64 j (Int.ofNat 1)),none)],aC::G')))))) (Tr.ok (Ex.exit 0,[(0,AV.yld 1 1,none),Z0,(6,AV.int .i64 (Int.ofNat k),none),(7,AV.int .i64 j,none),(8,AV.bool false,some 1)],aC::G))) (5,AV.slcT none (Row.M [aq.arr .i64 P k]) 1 k false,none):=by kernel_rfl
theorem Pf (n k:Nat) (P:Nat→Int) (G:aa) (j:Int):aT (b5 n 96 16) (il aV n 0) bc ba (part Tryd.f96 [1,0,0]) (hints (zj k P j)) (aC::G) =
 Tr.ite (cY j (Int.ofNat k)) (Tr.req (c7 j k) (Tr.req (cI (aM 0 j 1) k) Tr.bad)) (Tr.ok (Ex.exit 0,[(0,AV.yld 1 1,none),(5,AV.slcT none (Row.M [aq.arr .i64 P k]) 1 k false,none),(6,AV.int .i64 (Int.ofNat k),none),(7,AV.int .i64 j,none),(8,AV.bool false,some 1)],aC::G)):=by kernel_rfl
theorem TL (n s k:Nat) (P:Nat→Int) (G G':aa):bu Tryd.prog (cd n) 100000 96 Tryd.f96 (KtG.kt 96) (il aV n 0) (dy bc 0 (zj k P (Int.ofNat 0)) (aC::G) (.ok (.normal,hints (zj k P (Int.ofNat k)++[(8,.bool false)]),aC::G'))) ba [(.yld 0 1,none),(.ptrT (some s) (.G [bF k P false]) 0,none)] G =
 (fun (Z0:au)=>Tr.reqP (Z0=Z0∧aC::G=aC::G) (Tr.ok ((AV.tup [],none),G'))) [(0,AV.yld 1 1),(5,AV.slcT none (Row.M [aq.arr .i64 P k]) 1 k false),(6,AV.int .i64 (Int.ofNat k)),(7,AV.int .i64 (Int.ofNat 0))]:=by kernel_rfl
theorem Hz (n s k:Nat) (P:Nat→Int) (bs:List (Nat×az)) (H:aa) (x:Int):aT (jG n 100 13 2 1) (il aV n 0) bc ba (part Tryd.f100 [1,0,1,0,0]) (hints [(2,.ptr 2 0 0 0),(6,nr (s+3) (bF k P false)),(7,.int .i64 x)]) (aC::aC::⟨false,bs⟩::H) =
 Tr.ok (Ex.normal,[(2,AV.ptr 2 0 0 0,none),(5,AV.int .i64 x,none)],aC::aC::{ lock:=false,bs:=bs } :: H):=by kernel_rfl
theorem LG (n:Nat) (L:iZ) (H:aa) (x:Int):aT (jG n 100 13 2 1) (il aV n 0) bc ba (part Tryd.f100 [1,0,1,0,1]) (hints [(2,.ptr 2 0 0 0),(5,.int .i64 x)]) (aC::aC::Jk (0,.loop L)::H) =
 Tr.req (jW 0 1 8) (Tr.req (eO 0 0) (Tr.req (iV 1 1) (Tr.ok (Ex.normal,[],{ lock:=false,bs:=[(0,az.row (Row.I .i64 [x])),(0,az.dead)] } :: aC::{ lock:=false,bs:=[(0,az.row (Row.G [AV.slc 0 2 0 0 1 1 none])),(0,az.loop L),(0,az.row (Row.M [aq.arr .i64 (aX [x]) 1]))] } :: H)))):=by kernel_rfl
theorem LH (n v k:Nat) (b:Nat→Int) (L:iZ) (H:aa) (x:Int):aT (jG n 100 13 2 1) (il aV n 0) bc ba (part Tryd.f100 [1,0,1,0,1]) (hints [(2,.ptr 2 0 0 0),(5,.int .i64 x)]) (aC::aC::DU v k b (0,.loop L)::H) =
 Tr.req (jW k 1 8) (Tr.req (eO 0 0) (Tr.req (iV 1 1) (Tr.req (eO v v) (Tr.req (eO (aF 0 k) k) (Tr.ok (Ex.normal,[],{ lock:=false,bs:=[(0,az.row (Row.I .i64 [x]))] } :: aC::{ lock:=false,bs:=[(0,az.row (Row.G [AV.slc 0 2 (Nat.succ v) 0 1 (aF k 1) none])),(0,az.loop L),(Nat.succ v,az.row (Row.M [aq.arr .i64 (qe (xU b 0) k (aX [x])) (aF k 1)]))] } :: H)))))):=by kernel_rfl
theorem Pz (n s v k m:Nat) (P b:Nat→Int) (H:aa):aT (b5 n 100 13) (il aV n 0) bc (Hx ba (fun _=>true) (mC s (bF k P false)) (⟨false,[(0,.row (.G [.nils]))]⟩::H) (.ok (.normal,hints (mC s (bF k P false)),DU v m b (0,.dead)::H))) (aY Tryd.f100) (hints [(0,.nils),(1,nr (s+1) (bF k P false))]) (aC::H) =
 (fun (Z0:au)=>Tr.reqP (Z0=Z0∧{ lock:=false,bs:=[(0,az.row (Row.G [AV.nils]))] } :: H={ lock:=false,bs:=[(0,az.row (Row.G [AV.nils]))] } :: H) (Tr.ok (Ex.ret,[(4,AV.slc 0 2 v 0 1 m none,none)],{ lock:=false,bs:=[(0,az.row (Row.G [AV.slc 0 2 v 0 1 m none])),(0,az.dead),(v,az.row (Row.M [aq.arr .i64 b m]))] } :: H))) [(2,AV.ptr 0 0 0 0),(6,AV.fn (Fn.func 96) [] [AV.ptrT (some (Nat.succ s)) (Row.G [AV.slcT none (Row.M [aq.arr .i64 P k]) 1 k false]) 0])]:=by kernel_rfl
theorem Mh (n s k:Nat) (P:Nat→Int) (H:aa):bu Tryd.prog (cd n) 100000 100 Tryd.f100 (KtG.kt 100) (il aV n 0) bc (Hx ba (fun _=>true) (mC s (bF k P false)) (⟨false,[(0,.row (.G [.nils]))]⟩::H) (.ok (.normal,hints (mC s (bF k P false)),Jk (0,.dead)::H))) [(.nils,none),(nr s (bF k P false),none)] H =
 (fun (Z0:au)=>Tr.reqP (Z0=Z0∧{ lock:=false,bs:=[(0,az.row (Row.G [AV.nils]))] } :: H={ lock:=false,bs:=[(0,az.row (Row.G [AV.nils]))] } :: H) (Tr.ok ((AV.nils,none),H))) [(2,AV.ptr 0 0 0 0),(6,AV.fn (Fn.func 96) [] [AV.ptrT (some (Nat.succ s)) (Row.G [AV.slcT none (Row.M [aq.arr .i64 P k]) 1 k false]) 0])]:=by kernel_rfl
theorem Mo (n s k:Nat) (P:Nat→Int) (H:aa):aT (b5 n 100 13) (il aV n 0) bc (Hx ba (fun _=>true) (mC s (bF k P false)) (⟨false,[(0,.row (.G [.nils]))]⟩::H) (.ok (.normal,hints (mC s (bF k P false)),Jk (0,.dead)::H))) (aY Tryd.f100) (hints [(0,.nils),(1,nr (s+1) (bF k P false))]) (aC::H) =
 (fun (Z0:au)=>Tr.reqP (Z0=Z0∧{ lock:=false,bs:=[(0,az.row (Row.G [AV.nils]))] } :: H={ lock:=false,bs:=[(0,az.row (Row.G [AV.nils]))] } :: H) (Tr.ok (Ex.ret,[(4,AV.nils,none)],{ lock:=false,bs:=[(0,az.row (Row.G [AV.nils])),(0,az.dead)] } :: H))) [(2,AV.ptr 0 0 0 0),(6,AV.fn (Fn.func 96) [] [AV.ptrT (some (Nat.succ s)) (Row.G [AV.slcT none (Row.M [aq.arr .i64 P k]) 1 k false]) 0])]:=by kernel_rfl
theorem TO (n s k m:Nat) (P b:Nat→Int) (H:aa):aT (b5 n 94 5) (il (Dq aV 100 [.nils,nr (s+1) (bF k P false)] (aC::H) (.ok (.slc 0 0 0 0 1 m none,fU 0 m b::H))) n 0) bc ba (aY Tryd.f94) (hints [(0,nr (s+1) (bF k P false))]) (aC::H) =
 (fun (Z0:List AV)=>Tr.reqP (Z0=Z0∧aC::H=aC::H) (Tr.ok (Ex.ret,[(2,AV.slc 0 0 0 0 1 m none,none)],{ lock:=false,bs:=[(0,az.row (Row.M [aq.arr .i64 b m]))] } :: H))) [AV.nils,AV.fn (Fn.func 96) [] [AV.ptrT (some (Nat.succ s)) (Row.G [AV.slcT none (Row.M [aq.arr .i64 P k]) 1 k false]) 0]]:=by kernel_rfl
theorem Pt (n s k:Nat) (P:Nat→Int) (H:aa):bu Tryd.prog (cd n) 100000 94 Tryd.f94 (KtG.kt 94) (il (Dq aV 100 [.nils,nr (s+1) (bF k P false)] (aC::H) (.ok (.nils,aC::H))) n 0) bc ba [(nr s (bF k P false),none)] H =
 (fun (Z0:List AV)=>Tr.reqP (Z0=Z0∧aC::H=aC::H) (Tr.ok ((AV.nils,none),H))) [AV.nils,AV.fn (Fn.func 96) [] [AV.ptrT (some (Nat.succ s)) (Row.G [AV.slcT none (Row.M [aq.arr .i64 P k]) 1 k false]) 0]]:=by kernel_rfl
theorem PA (n s k:Nat) (P:Nat→Int) (H:aa):aT (b5 n 94 5) (il (Dq aV 100 [.nils,nr (s+1) (bF k P false)] (aC::H) (.ok (.nils,aC::H))) n 0) bc ba (aY Tryd.f94) (hints [(0,nr (s+1) (bF k P false))]) (aC::H) =
 (fun (Z0:List AV)=>Tr.reqP (Z0=Z0∧aC::H=aC::H) (Tr.ok (Ex.ret,[(2,AV.nils,none)],aC::H))) [AV.nils,AV.fn (Fn.func 96) [] [AV.ptrT (some (Nat.succ s)) (Row.G [AV.slcT none (Row.M [aq.arr .i64 P k]) 1 k false]) 0]]:=by kernel_rfl
theorem TB (n s k:Nat) (P b c:Nat→Int) (H:aa):bu Tryd.prog (cd n) 100000 75 Tryd.f75 (KtG.kt 75) (il (Dq (Dq aV 94 [nr (s+1) (bF k P false)] (aC::H) (.ok (.slc 0 0 0 0 1 k none,fU 0 k b::H))) 95 [.slc 0 0 0 0 1 k none] (fU 0 k b::H) (.ok (.tup [],fU 0 k c::H))) n 0) bc ba [(nr s (bF k P false),none)] H =
 (fun (Z0:List AV)=>Tr.reqP (Z0=Z0∧aC::H=aC::H) (Tr.reqP ([AV.slc 0 0 0 0 1 k none]=[AV.slc 0 0 0 0 1 k none]∧{ lock:=false,bs:=[(0,az.row (Row.M [aq.arr .i64 b k]))] } :: H={ lock:=false,bs:=[(0,az.row (Row.M [aq.arr .i64 b k]))] } :: H) (Tr.req (eO 0 0) (Tr.req (mS 0 k 0 k) (Tr.ok ((AV.slcT none (Row.M [aq.arr .i64 (xU c 0) k]) 1 k false,none),H)))))) [AV.fn (Fn.func 96) [] [AV.ptrT (some (Nat.succ s)) (Row.G [AV.slcT none (Row.M [aq.arr .i64 P k]) 1 k false]) 0]]:=by kernel_rfl
theorem Ps (n s k:Nat) (P:Nat→Int) (H:aa):bu Tryd.prog (cd n) 100000 75 Tryd.f75 (KtG.kt 75) (il (Dq (Dq aV 94 [nr (s+1) (bF k P false)] (aC::H) (.ok (.nils,aC::H))) 95 [.nils] (aC::H) (.ok (.tup [],aC::H))) n 0) bc ba [(nr s (bF k P false),none)] H =
 (fun (Z0:List AV)=>Tr.reqP (Z0=Z0∧aC::H=aC::H) (Tr.reqP ([AV.nils]=[AV.nils]∧aC::H=aC::H) (Tr.ok ((AV.nils,none),H)))) [AV.fn (Fn.func 96) [] [AV.ptrT (some (Nat.succ s)) (Row.G [AV.slcT none (Row.M [aq.arr .i64 P k]) 1 k false]) 0]]:=by kernel_rfl
theorem TC (n k:Nat) (P:Nat→Int) (H:aa):bu Tryd.prog (cd n) 100000 76 Tryd.f76 (KtG.kt 76) (il aV n 0) bc ba [(bF k P false,none)] H =
 Tr.ok ((AV.fn (Fn.func 96) [] [AV.ptrT (some 0) (Row.G [AV.slcT none (Row.M [aq.arr .i64 P k]) 1 k false]) 0],none),H):=by kernel_rfl
theorem Pu (n:Nat) (H:aa):bu Tryd.prog (cd (n+9)) 100000 95 Tryd.f95 (KtG.kt 95) (il aV n 9) bc ba [(.nils,none)] H =
 Tr.ok ((AV.tup [],none),H):=by kernel_rfl
theorem QS:∀ b,(0,b) ∈ aI (aY Tryd.f96)→b=.loop (part Tryd.f96 [1,0,0]):=eX (by kernel_rfl)
section
variable (n s k:Nat) (P:Nat→Int)
theorem Rh (St:Nat→aa) (hk:k≤1000) (hr:∀ j,j<k→cd n (.round 1 1) [.int .i64 (P j)] (aC::St j)=some (.bool true,aC::St (j+1))) :
 cd (n+1) (.fn 96) [.yld 0 1,.ptrT (some s) (.G [bF k P false]) 0] (St 0)=some (.tup [],St k):=by
 have hx:=qj (n:=n) (f:=96) (nt:=16) (c:=part Tryd.f96 [1,0,0]) 0 (fun j=>zj k P (j:Int)) (fun j=>aC::St j) k (zj k P (Int.ofNat k)++[(8,.bool false)],aC::St k) (by omega) (fun j hj=>?_) ?_
 · refine bK (n:=n) Tryd.func96 rfl rfl rfl (TL n s k P (St 0) (St k)) (aJ _) (br (ak _ _) QS (fun x h=>by rw[← Tr.ab h];simp only[gK.st,bp];exact hx)) (al _ _) ?_
   exact Tr.aj ⟨rfl,rfl⟩ (Tr.ah ⟨rfl,rfl⟩)
 · refine aR (t96 n k P (St j) (St (j+1)) (j:Int) (P j)) (Ew (aJ n) (fun x hy=>by rw[← Tr.ab hy];exact hr j hj)) (ak _ _) (al _ _) ?_
   rw[pb,ft (by omega)]
   generalize St (j+1)=G' at *
   generalize St j=G at *
   exact wF
 · obtain ⟨x,h1,rfl⟩:=aR (Q:=fun x=>x=(.exit 0,zj k P (Int.ofNat k)++[(8,.bool false)],aC::St k)) (Pf n k P (St k) (Int.ofNat k)) (aJ n) (ak _ _) (al _ _) (by
    refine Tr.ae (fun hc=>?_) (fun hc=>Tr.ah rfl)
    simp (disch:=omega) only[nV,nW] at hc;omega)
   exact h1
end
theorem xM {n d i:Nat} {args:List AV} {H H2 R:aa} {l l2:iZ} {fr fr1 fr2:au} {lv:bH}
 (hg:ar H d i=(0,.loop l)) (hl:aD H d=false) (hs:l.state=.ready) (hp:iM l.nt (jk (d+1) l.fr) l.params (args.map (kO 1))=some fr)
 (h1:exec (jG n l.fn l.nt (d+1) i) l.assign fr (aC::H)=some (.normal,fr1,aC::H))
 (h2:exec (jG n l.fn l.nt (d+1) i) l.body fr1 (dm (aC::H) (d+1) i (0,.loop { l with state:=.busy }))=some (.normal,fr2,lv::H2)) (hg2:ar H2 d i=(0,.loop l2)) (hR:R=dm H2 d i (0,.loop { l2 with state:=.ready,pending:=none })) :
 cd (n+1) (.round d i) args H=some (.bool true,R):=by
 rw[hR]
 exact EC (P:=Tryd.prog) (ora:=iX) (KT:=KtG.kt) (fu:=100000) (e:=.normal) hg hl hs hp h1 (by rw[show ar (aC::H) (d+1) i=ar H d i from rfl];exact hg) hs h2 hg2
theorem kf {n f nt d i:Nat} {c:Code} {callR:bj} {bl:eI} {rg:nu} {fr:au} {H:aa} {T:Tr gK} (e:aT (jG n f nt d i) callR bl rg c (hints fr) H=T) (hC:callR.Ok (cd n)) (hB:bl.Ok (jG n f nt d i) c) (hR:rg.Ok (jG n f nt d i) c) {y:Ex×au×aa} (h:T.all fun x=>x.st=y):exec (jG n f nt d i) c fr H=some y:=by
 obtain ⟨x,h1,rfl⟩:=h
 have:=fD (cx:=jG n f nt d i) hC c hB hR (hints fr) H x (by rw[e];exact h1)
 rw[bp] at this;exact this
theorem rm {n f nt d i:Nat} {c:Code} {callR:bj} {bl:eI} {rg:nu} {fr:au} {H:aa} {T:Tr gK} {Q:Ex×au×aa→Prop} (e:aT (jG n f nt d i) callR bl rg c (hints fr) H=T) (hC:callR.Ok (cd n)) (hB:bl.Ok (jG n f nt d i) c) (hR:rg.Ok (jG n f nt d i) c) (h:T.all fun x=>Q x.st):∃ y,exec (jG n f nt d i) c fr H=some y∧Q y:=by
 obtain ⟨x,h1,h2⟩:=h
 have:=fD (cx:=jG n f nt d i) hC c hB hR (hints fr) H x (by rw[e];exact h1)
 rw[bp] at this;exact ⟨_,this,h2⟩
noncomputable def ph:Code:=part Tryd.f100 [1,0,1,0,0]
noncomputable def vm:Code:=part Tryd.f100 [1,0,1,0,1]
theorem OY:dM (aY Tryd.f100)=[(.tmp 6,#[7],ph,vm)]:=by kernel_rfl
noncomputable def dF (s:Nat) (A:AV):iZ:={ state:=.ready,pending:=none,fn:=100,nt:=13,fr:=mC s A,params:=[7],assign:=ph,body:=vm }
noncomputable def Lr (b:Nat×az):List Int→bH
 | []=>Jk b
 | a::r=>DU r.length (r.length+1) (aX (a::r)) b
theorem LA (n s k:Nat) (P:Nat→Int) (L:List Int) (H:aa) (x:Int) (hL:L.length≤1000) :
 cd (n+1) (.round 1 1) [.int .i64 x] (aC::Lr (0,.loop (dF s (bF k P false))) L::H)=some (.bool true,aC::Lr (0,.loop (dF s (bF k P false))) (L++[x])::H):=by
 cases L with
 | nil =>
   have h1:exec (jG n 100 13 2 1) ph [(2,.ptr 2 0 0 0),(6,nr (s+3) (bF k P false)),(7,.int .i64 x)] (aC::aC::Jk (0,.loop (dF s (bF k P false)))::H)=some (.normal,[(2,.ptr 2 0 0 0),(5,.int .i64 x)],aC::aC::Jk (0,.loop (dF s (bF k P false)))::H) :=
    kf (Hz n s k P _ H x) (aJ n) (ak _ _) (al _ _) (Tr.ah rfl)
   obtain ⟨y,h2,h3⟩:=rm (Q:=fun y=>y=(.normal,[],⟨false,[(0,.row (.I .i64 [x])),(0,.dead)]⟩::aC::DU 0 1 (aX [x]) (0,.loop { dF s (bF k P false) with state:=.busy })::H)) (LG n { dF s (bF k P false) with state:=.busy } H x) (aJ n) (ak _ _) (al _ _) (by
    generalize dF s (bF k P false)=L at *
    exact wF)
   subst h3
   exact xM (l:=dF s (bF k P false)) (l2:={ dF s (bF k P false) with state:=.busy }) rfl rfl rfl rfl h1 h2 rfl rfl
 | cons a r =>
   simp only[List.length_cons] at hL
   have h1:exec (jG n 100 13 2 1) ph [(2,.ptr 2 0 0 0),(6,nr (s+3) (bF k P false)),(7,.int .i64 x)] (aC::aC::DU r.length (r.length+1) (aX (a::r)) (0,.loop (dF s (bF k P false)))::H)=some (.normal,[(2,.ptr 2 0 0 0),(5,.int .i64 x)],aC::aC::DU r.length (r.length+1) (aX (a::r)) (0,.loop (dF s (bF k P false)))::H) :=
    kf (Hz n s k P _ H x) (aJ n) (ak _ _) (al _ _) (Tr.ah rfl)
   have e1:=qv (a::r) x
   simp only[List.length_cons] at e1
   have e3:aF (r.length+1) 1=r.length+1+1:=by rw[a6]
   obtain ⟨y,h2,h3⟩:=rm (Q:=fun y=>y=(.normal,[],⟨false,[(0,.row (.I .i64 [x]))]⟩::aC::DU (r.length+1) (r.length+1+1) (aX (a::r++[x])) (0,.loop { dF s (bF k P false) with state:=.busy })::H)) (LH n r.length (r.length+1) (aX (a::r)) { dF s (bF k P false) with state:=.busy } H x) (aJ n) (ak _ _) (al _ _) (by
    rw[e1,e3]
    generalize dF s (bF k P false)=L at *
    generalize aX (a::r++[x])=Y at *
    exact wF)
   subst h3
   have e4:(r++[x]).length=r.length+1:=by simp
   refine xM (l:=dF s (bF k P false)) (l2:={ dF s (bF k P false) with state:=.busy }) rfl rfl rfl rfl h1 h2 rfl ?_
   show aC::DU (r++[x]).length ((r++[x]).length+1) (aX (a::(r++[x]))) _::H=_
   rw[e4];rfl
def jv (P:Nat→Int) (k:Nat):List Int:=(List.range k).map P
theorem GG (P:Nat→Int) (k:Nat):jv P (k+1)=jv P k++[P k]:=by unfold jv;rw[List.range_succ,List.map_append];rfl
theorem ik (P:Nat→Int) (k:Nat):(jv P k).length=k:=by simp[jv]
theorem Ep {n f:Nat} {args:List AV} {H:aa} {x:AV×aa} (hf:f=94∨f=100) (h:mF Tryd.prog KtG.kt 100000 f (cd n) args H=some x):cd (n+1) (.fn f) args H=some x:=by
 refine wc ?_
 have e:iX (cd n) f args H=(match mF Tryd.prog KtG.kt 100000 f (cd n) args H with
  | some x=>some x
  | none=>tk [⟨15,[],.bool true⟩] (cd n) f args H):=by rcases hf with rfl | rfl<;>rfl
 rw[e,h]
theorem Eo {n f:Nat} {args:List AV} {H:aa} (hf:f=94∨f=100) (h:mF Tryd.prog KtG.kt 100000 f (cd n) args H=none):iX (cd n) f args H=none:=by
 have e:iX (cd n) f args H=(match mF Tryd.prog KtG.kt 100000 f (cd n) args H with
  | some x=>some x
  | none=>tk [⟨15,[],.bool true⟩] (cd n) f args H):=by rcases hf with rfl | rfl<;>rfl
 rw[e,h]
 rcases hf with rfl | rfl<;>exact Hw rfl rfl _ _ _
theorem Dz {n f:Nat} {args:List AV} {l1:bH} {H:aa} {fn:Func} {c:Code} (h94:f=94∨f=100) (hf:Tryd.prog.funcs[f]?=some fn) (hb:fn.body=some c) (hle:Nat.ble args.length fn.ntmps=true) {e:Ex} {fr:au} {l:bH} {j ver off sz len:Nat} {cap:Option Nat} {q:Row}
 (h:exec (b5 n f fn.ntmps) c (dC 0 args) (⟨false,[]⟩::l1::H)=some (e,fr,l::l1::H)) (he:e=.normal∨e=.ret) (hv:fP Tryd.prog fr (l::l1::H) fn.results.toList=some [.slc 0 j ver off sz len cap]) (hq:cE (l::l1::H) 0 j ver=some q) (h0:l.lock=false) (h1:l1.lock=false) :
 cd (n+1) (.fn f) args (l1::H)=some (.slc 0 l1.bs.length 0 off sz len cap,bo (l1::H) 0 (.row (iS 1 q))):=by
 refine Ep h94 ?_
 unfold mF
 rw[hf];dsimp only
 rw[hb];dsimp only
 rw[if_pos hle,dv]
 rw[show exec (⟨Tryd.prog,cd n,100000,f,fn.ntmps,KtG.kt f,none⟩:Cx) c (dC 0 args) (⟨false,[]⟩::l1::H)=_ from h]
 dsimp only
 rcases he with rfl | rfl<;>(simp only[hv,hq,h0,h1,Bool.or_self,Bool.false_eq_true,if_false])
theorem AE {n f:Nat} {args:List HV} {l1:bH} {H:aa} {fn:Func} {c:Code} (h94:f=94∨f=100) (hf:Tryd.prog.funcs[f]?=some fn) (hb:fn.body=some c) (hle:Nat.ble args.length fn.ntmps=true) {e:Ex} {fr:au} {l:bH}
 (h:exec (b5 n f fn.ntmps) c (dC 0 (jZ args)) (⟨false,[]⟩::l1::H)=some (e,fr,l::l1::H)) (he:e=.normal∨e=.ret) (hv:fP Tryd.prog fr (l::l1::H) fn.results.toList=some [.nils])
 {callR:bj} {bl:eI} {rg:nu} {T:Tr (HV×aa)} (et:bu Tryd.prog (cd n) 100000 f fn (KtG.kt f) callR bl rg args (l1::H)=T) (hC:callR.Ok (cd n)) (hB:bl.Ok (b5 n f fn.ntmps) (aY fn)) (hR:rg.Ok (b5 n f fn.ntmps) (aY fn)) (hT:T.all fun y=>y.1.1=.nils∧y.2=l1::H):cd (n+1) (.fn f) (jZ args) (l1::H)=some (.nils,l1::H):=by
 have hl:(jZ args).length=args.length:=by unfold jZ;rw[gq];exact List.length_map ..
 have ho:mF Tryd.prog KtG.kt 100000 f (cd n) (jZ args) (l1::H)=none:=by
  unfold mF
  rw[hf];dsimp only
  rw[hb];dsimp only
  rw[if_pos (by rw[hl];exact hle),dv]
  rw[show exec (⟨Tryd.prog,cd n,100000,f,fn.ntmps,KtG.kt f,none⟩:Cx) c (dC 0 (jZ args)) (⟨false,[]⟩::l1::H)=_ from h]
  dsimp only
  rcases he with rfl | rfl<;>simp only[hv]
 obtain ⟨y,h1,h2,h3⟩:=hT
 have:=nH hf (by rw[hb];rfl) (Eo h94 ho) hle hC hB hR (show (bu Tryd.prog (cd n) 100000 f fn (KtG.kt f) callR bl rg args (l1::H)).run=some y by rw[et];exact h1)
 rw[h2,h3] at this
 exact this
section
variable (n s k:Nat) (P:Nat→Int) (H:aa)
theorem J9 (hk:k≤1000):exec (b5 (n+2) 100 13) (.rangeFunc (.tmp 6) #[7] ph vm) (mC s (bF k P false)) (⟨false,[(0,.row (.G [.nils]))]⟩::H)=some (.normal,mC s (bF k P false),dL (Lr (0,.loop (dF s (bF k P false))) (jv P k)::H) 0 1) :=
 xE (cx:=b5 (n+2) 100 13) (l:=dF s (bF k P false)) (f:=.tmp 6) (ps:=#[7]) (fr:=mC s (bF k P false)) (H:=⟨false,[(0,.row (.G [.nils]))]⟩::H) (g:=96) (a:=[]) (b:=[.ptrT (some (s+1)) (.G [bF k P false]) 0]) rfl rfl rfl
  (Rh (n+1) (s+1) k P (fun j=>Lr (0,.loop (dF s (bF k P false))) (jv P j)::H) hk (fun j hj=>by
    show _=some (_,aC::Lr _ (jv P (j+1))::H)
    rw[GG]
    exact LA n s k P (jv P j) H (P j) (by rw[ik];omega))) (by
    cases e:jv P k with
    | nil=>rfl
    | cons a r=>rfl) rfl rfl
theorem Ef {c:Nat} {fr:au} {G:aa} {Y:gK} (hx:exec (b5 c 100 13) (.rangeFunc (.tmp 6) #[7] ph vm) fr G=some Y.st):(Hx ba (fun _=>true) fr G (.ok Y)).Ok (b5 c 100 13) (aY Tryd.f100) :=
 EA (al _ _) (fun f ps a b _ hm x hx2=>by
  rw[OY] at hm
  simp only[List.mem_cons,Prod.mk.injEq,List.not_mem_nil,or_false] at hm
  obtain ⟨rfl,rfl,rfl,rfl⟩:=hm
  rw[← Tr.ab hx2];exact hx)
theorem MQ (hk:k≤1000) (hk1:1≤k):cd (n+3) (.fn 100) [.nils,nr s (bF k P false)] (aC::H)=some (.slc 0 0 0 0 1 k none,fU 0 k (aX (jv P k))::H):=by
 have hx:=J9 n s k P (aC::H) hk
 have hl:=ik P k
 cases e:jv P k with
 | nil=>rw[e] at hl;simp at hl;omega
 | cons a r =>
   rw[e] at hx hl
   have hr:r.length+1=k:=by simpa using hl
   obtain ⟨x,hb,rfl⟩:=aR (Q:=fun x=>x=(.ret,[(4,.slc 0 2 r.length 0 1 (r.length+1) none)],DU r.length (r.length+1) (aX (a::r)) (0,.dead)::aC::H)) (Pz (n+2) s r.length k (r.length+1) P (aX (a::r)) (aC::H)) (aJ _) (ak _ _) (Ef (by simp only[gK.st,bp];exact hx)) (by
    exact wF)
   have e8:Tryd.f100.ntmps=13:=by kernel_rfl
   have eb:Tryd.f100.body=some (aY Tryd.f100):=by kernel_rfl
   have er:Tryd.f100.results.toList=[.tmp 4]:=by kernel_rfl
   have:=Dz (n:=n+2) (fn:=Tryd.f100) (c:=aY Tryd.f100) (args:=[.nils,nr s (bF k P false)]) (l1:=aC) (H:=H) (.inr rfl) Tryd.func100 eb (by rw[e8];rfl) (e:=.ret) (fr:=[(4,.slc 0 2 r.length 0 1 (r.length+1) none)]) (l:=DU r.length (r.length+1) (aX (a::r)) (0,.dead)) (j:=2) (ver:=r.length) (q:=.M [.arr .i64 (aX (a::r)) (r.length+1)]) (by rw[e8];exact hb) (.inr rfl) (by rw[er];rfl) (by unfold DU;simp[cE,ar,ao]) rfl rfl
   rw[hr] at this
   exact this
theorem Hg:cd (n+3) (.fn 100) [.nils,nr s (bF 0 P false)] (aC::H)=some (.nils,aC::H):=by
 have hx:=J9 n s 0 P (aC::H) (by omega)
 obtain ⟨x,hb,rfl⟩:=aR (Q:=fun x=>x=(.ret,[(4,.nils)],Jk (0,.dead)::aC::H)) (Mo (n+2) s 0 P (aC::H)) (aJ _) (ak _ _) (Ef (by simp only[gK.st,bp];exact hx)) (by
  exact wF)
 have e8:Tryd.f100.ntmps=13:=by kernel_rfl
 have eb:Tryd.f100.body=some (aY Tryd.f100):=by kernel_rfl
 have er:Tryd.f100.results.toList=[.tmp 4]:=by kernel_rfl
 refine AE (n:=n+2) (fn:=Tryd.f100) (c:=aY Tryd.f100) (l1:=aC) (H:=H) (.inr rfl) Tryd.func100 eb (by rw[e8];rfl) (by rw[e8];exact hb) (.inr rfl) (by rw[er];rfl) (Mh (n+2) s 0 P (aC::H)) (aJ _) (ak _ _) (Ef (by simp only[gK.st,bp];exact J9 n s 0 P (aC::H) (by omega))) ?_
 exact wF
theorem Rf (hk:k≤1000) (hk1:1≤k):cd (n+4) (.fn 94) [nr s (bF k P false)] (aC::H)=some (.slc 0 0 0 0 1 k none,fU 0 k (aX (jv P k))::H):=by
 obtain ⟨x,hb,rfl⟩:=aR (Q:=fun x=>x=(.ret,[(2,.slc 0 0 0 0 1 k none)],fU 0 k (aX (jv P k))::aC::H)) (TO (n+3) s k k P (aX (jv P k)) (aC::H)) (bS _ _ (kb (bx _) (fun x hx=>by rw[← Tr.ab hx];exact MQ n (s+1) k P (aC::H) hk hk1))) (ak _ _) (al _ _) (by
  exact wF)
 have e8:Tryd.f94.ntmps=5:=by kernel_rfl
 have eb:Tryd.f94.body=some (aY Tryd.f94):=by kernel_rfl
 have er:Tryd.f94.results.toList=[.tmp 2]:=by kernel_rfl
 exact Dz (n:=n+3) (fn:=Tryd.f94) (c:=aY Tryd.f94) (args:=[nr s (bF k P false)]) (l1:=aC) (H:=H) (.inl rfl) Tryd.func94 eb (by rw[e8];rfl) (e:=.ret) (fr:=[(2,.slc 0 0 0 0 1 k none)]) (l:=fU 0 k (aX (jv P k))) (j:=0) (ver:=0) (q:=.M [.arr .i64 (aX (jv P k)) k]) (by rw[e8];exact hb) (.inr rfl) (by rw[er];rfl) (by unfold fU;simp[cE,ar,ao]) rfl rfl
theorem MV:cd (n+4) (.fn 94) [nr s (bF 0 P false)] (aC::H)=some (.nils,aC::H):=by
 obtain ⟨x,hb,rfl⟩:=aR (Q:=fun x=>x=(.ret,[(2,.nils)],aC::aC::H)) (PA (n+3) s 0 P (aC::H)) (bS _ _ (kb (bx _) (fun x hx=>by rw[← Tr.ab hx];exact Hg n (s+1) P (aC::H)))) (ak _ _) (al _ _) (by
  exact wF)
 have e8:Tryd.f94.ntmps=5:=by kernel_rfl
 have eb:Tryd.f94.body=some (aY Tryd.f94):=by kernel_rfl
 have er:Tryd.f94.results.toList=[.tmp 2]:=by kernel_rfl
 refine AE (n:=n+3) (fn:=Tryd.f94) (c:=aY Tryd.f94) (l1:=aC) (H:=H) (.inl rfl) Tryd.func94 eb (by rw[e8];rfl) (by rw[e8];exact hb) (.inr rfl) (by rw[er];rfl) (Pt (n+3) s 0 P (aC::H)) (bS _ _ (kb (bx _) (fun x hx=>by rw[← Tr.ab hx];exact Hg n (s+1) P (aC::H)))) (ak _ _) (al _ _) ?_
 exact wF
theorem Ga (A:List Int):((List.range A.length).map fun q=>aX A (0+q))=A:=by
 apply List.ext_getElem (by simp)
 intro i h1 h2
 simp only[List.getElem_map,List.getElem_range,Nat.zero_add,vn,List.getD_eq_getElem?_getD,List.getElem?_eq_getElem h2,Option.getD_some]
theorem kI (L:List Int):(fV L).length=L.length:=List.length_mergeSort L
theorem JO (A:List Int):CO fV (aX A) 0 A.length=aX (fV A):=by
 funext x
 have hl:(fV A).length=A.length:=kI A
 unfold CO
 rw[Ga,vn,vn]
 by_cases h:x<A.length
 · rw[if_pos (by omega),Nat.sub_zero]
 · rw[if_neg (by omega),List.getD_eq_getElem?_getD,List.getD_eq_getElem?_getD,List.getElem?_eq_none (by omega),List.getElem?_eq_none (by omega)]
theorem Rg (k:Nat) (a:Nat→Int) (h1:0<k) (h2:k<4611686018427387904):cd (n+1) (.fn 95) [.slc 0 0 0 0 1 k none] (fU 0 k a::H)=some (.tup [],fU 0 k (CO fV a 0 k)::H):=by
 refine wc ?_
 show ED fV [.slc 0 0 0 0 1 k none] (fU 0 k a::H)=_
 rw[show ED fV [.slc 0 0 0 0 1 k none] (fU 0 k a::H)=(if aD (fU 0 k a::H) 0=false∧0<k∧k<4611686018427387904∧0+k≤k then some (.tup [],dm (fU 0 k a::H) 0 0 (0,.row (.M [.arr .i64 (CO fV a 0 k) k]))) else none) from rfl]
 rw[if_pos ⟨rfl,h1,h2,by omega⟩]
 rfl
noncomputable def JV (P:Nat→Int) (k:Nat):AV:=dA (fV (jv P k))
theorem Q5 (hk:k≤1000):cd (n+11) (.fn 75) [nr s (bF k P false)] H=some (JV P k,H):=by
 cases k with
 | zero =>
   have h95:cd (n+10) (.fn 95) [.nils] (aC::H)=some (.tup [],aC::H):=by
    refine u9 (n:=n+9) Tryd.func95 rfl (fun _ _=>rfl) rfl (Pu n (aC::H)) (fi n 9) (ak _ _) (al _ _) ?_
    exact Tr.ah ⟨rfl,rfl⟩
   have e0:JV P 0=.nils:=by
    have h:fV (jv P 0)=[]:=List.eq_nil_of_length_eq_zero (by rw[kI,ik])
    unfold JV;rw[h];rfl
   rw[e0]
   refine bK (n:=n+10) Tryd.func75 rfl rfl rfl (Ps (n+10) s 0 P H) (bS _ _ (kb (kb (bx _) (fun x hx=>by rw[← Tr.ab hx];exact MV (n+6) (s+1) P H)) (fun x hx=>by rw[← Tr.ab hx];exact h95))) (ak _ _) (al _ _) ?_
   exact wF
 | succ k =>
   have e:JV P (k+1)=bF (k+1) (aX (fV (jv P (k+1)))) false:=Hi _ k (by rw[kI,ik])
   have h95:=Rg (n+9) H (k+1) (aX (jv P (k+1))) (by omega) (by omega)
   have er:=JO (jv P (k+1))
   rw[ik] at er
   rw[er] at h95
   rw[e]
   refine bK (n:=n+10) Tryd.func75 rfl rfl rfl (TB (n+10) s (k+1) P (aX (jv P (k+1))) (aX (fV (jv P (k+1)))) H) (bS _ _ (kb (kb (bx _) (fun x hx=>by rw[← Tr.ab hx];exact Rf (n+6) (s+1) (k+1) P H hk (by omega))) (fun x hx=>by rw[← Tr.ab hx];exact h95))) (ak _ _) (al _ _) ?_
   rw[lV]
   exact wF
theorem Q6:cd (n+1) (.fn 76) [bF k P false] H=some (nr 0 (bF k P false),H):=by
 refine bK (n:=n) Tryd.func76 rfl rfl rfl (TC n k P H) (aJ _) (ak _ _) (al _ _) ?_
 exact Tr.ah ⟨rfl,rfl⟩
end
end Go.Eng
end
section
namespace Go.Eng
open Go.Proofs Go.Eng.Gall
noncomputable def sX (m:Nat) (z S:Nat→Int) (R:Row) (j:Int):au:=[(1,bF m z false),(2,.ptr 0 0 0 0),(5,.ptrT none R 0),(7,bF m S false),(26,bF m S false),(27,.int .i64 (Int.ofNat m)),(28,.int .i64 j)]
noncomputable def uV (m:Nat) (z:Nat→Int) (R:Row) (j:Int):au:=[(1,bF m z false),(5,.ptrT none R 0),(43,bF m z false),(44,.int .i64 (Int.ofNat m)),(45,.int .i64 j)]
noncomputable def wv (m:Nat) (z:Nat→Int) (R:Row) (X j:Int):au:=[(5,.ptrT none R 0),(12,.int .u64 X),(56,bF m z false),(57,.int .i64 (Int.ofNat m)),(58,.int .i64 j)]
theorem Pr (n:Nat) (dr:Int) (lc:Nat) (zc:Nat→Int) (lb:Nat) (zb:Nat→Int) (W B:Nat→Int) (G:aa) (C:List AV→Prop):bu Tryd.prog (cd (n+2)) 100000 49 Tryd.f49 (KtG.kt 49) (il (l6 (tX aV 22 [cM dr lc zc lb zb] (.int .i64 (Int.ofNat 0))) 62 (fun x=>some (C x,shV dr lc zc lb zb W B))) n 2) bc ba [(cM dr lc zc lb zb,none),(.nils,none)] G =
 (fun (Z0:List AV)=>Tr.reqP (Z0=Z0) (Tr.ite (bz (cK (Int.ofNat 0) (Int.ofNat 0))) (Tr.ok ((AV.tup [AV.nilp,AV.int .i64 (Int.ofNat 0)],none),G)) (Tr.reqP (C Z0) (Tr.ok ((AV.tup [AV.ptrT none (Row.M [aq.one (AV.int .i64 dr),aq.one (AV.slcT none (Row.M [aq.arr .i64 zc (aw lc 4)]) 4 lc false),aq.one (AV.slcT none (Row.M [aq.arr .i64 zb (aw lb 2)]) 2 lb false),aq.arr .i64 W 20,aq.arr IntKind.u64 B 10]) 0,AV.int .i64 (Int.ofNat 0)],none),G))))) [AV.agg (Row.G [AV.int .i64 dr,AV.slcT none (Row.M [aq.arr .i64 zc (aw lc 4)]) 4 lc false,AV.slcT none (Row.M [aq.arr .i64 zb (aw lb 2)]) 2 lb false])]:=by kernel_rfl
theorem Tz (n:Nat) (dr:Int) (lc:Nat) (zc:Nat→Int) (lb:Nat) (zb:Nat→Int) (W B:Nat→Int) (G:aa) (c p:Int):bu Tryd.prog (cd n) 100000 71 Tryd.f71 (KtG.kt 71) (il aV n 0) bc ba [(shV dr lc zc lb zb W B,none),(.int .i64 c,none),(.int .i64 p,none)] G =
 Tr.req (c7 c 10) (Tr.req (mS (aM 3 c 2) 1 3 20) (Tr.req (mS (aF (aM 3 c 2) 1) 1 3 20) (Tr.ite (eh (W (ff (aM 3 c 2) 3)) p) (Tr.ok ((AV.bool (eh p (W (ff (aF (aM 3 c 2) 1) 3))),none),G)) (Tr.ok ((AV.bool false,some 1),G))))):=by kernel_rfl
theorem LM (n:Nat) (r:Row) (G:aa) (m:Nat) (z S:Nat→Int) (R:Row) (j:Int):aT (b5 n 39 76) (il aV n 0) bc ba (part Tryd.f39 [1,1,1,1,0,1,0,0]) (hints (sX m z S R j)) (⟨false,[(0,.row r)]⟩::G) =
 Tr.ite (cY j (Int.ofNat m)) (Tr.req (c7 j m) (Tr.req (cI (aM 0 j 1) m) (Tr.ite (bz (cK (S (aM 0 j 1)) j)) (Tr.ok (Ex.ret,[(4,AV.int .i64 (Int.ofNat 15),some 1)],{ lock:=false,bs:=[(0,az.row r)] } :: G)) (Tr.ok (Ex.normal,[(1,AV.slcT none (Row.M [aq.arr .i64 z m]) 1 m false,none),(2,AV.ptr 0 0 0 0,none),(5,AV.ptrT none R 0,none),(7,AV.slcT none (Row.M [aq.arr .i64 S m]) 1 m false,none),(26,AV.slcT none (Row.M [aq.arr .i64 S m]) 1 m false,none),(27,AV.int .i64 (Int.ofNat m),none),(28,AV.int .i64 (bf .i64 j (Int.ofNat 1)),none)],{ lock:=false,bs:=[(0,az.row r)] } :: G))))) (Tr.ok (Ex.exit 0,[(1,AV.slcT none (Row.M [aq.arr .i64 z m]) 1 m false,none),(2,AV.ptr 0 0 0 0,none),(5,AV.ptrT none R 0,none),(7,AV.slcT none (Row.M [aq.arr .i64 S m]) 1 m false,none),(26,AV.slcT none (Row.M [aq.arr .i64 S m]) 1 m false,none),(27,AV.int .i64 (Int.ofNat m),none),(28,AV.int .i64 j,none),(29,AV.bool false,some 1)],{ lock:=false,bs:=[(0,az.row r)] } :: G)):=by kernel_rfl
theorem O7 (n:Nat) (r:Row) (G:aa) (m:Nat) (z:Nat→Int) (R:Row) (j:Int) (c:Int) (q:Bool):aT (b5 n 39 76) (il (tX aV 71 [(.ptrT none R 0),.int .i64 c,.int .i64 j] (.bool q)) n 0) bc ba (part Tryd.f39 [1,1,1,1,1,1,0,1,0,0]) (hints (uV m z R j)) (⟨false,[(0,.row r)]⟩::G) =
 Tr.ite (cY j (Int.ofNat m)) (Tr.req (c7 j m) (Tr.req (cI (aM 0 j 1) m) (Tr.reqP ([AV.ptrT none R 0,AV.int .i64 (z (aM 0 j 1)),AV.int .i64 j]=[AV.ptrT none R 0,AV.int .i64 c,AV.int .i64 j]) (Tr.ite (bz q) (Tr.ok (Ex.ret,[(4,AV.int .i64 (Int.ofNat 21),some 1)],{ lock:=false,bs:=[(0,az.row r)] } :: G)) (Tr.ok (Ex.normal,[(1,AV.slcT none (Row.M [aq.arr .i64 z m]) 1 m false,none),(5,AV.ptrT none R 0,none),(43,AV.slcT none (Row.M [aq.arr .i64 z m]) 1 m false,none),(44,AV.int .i64 (Int.ofNat m),none),(45,AV.int .i64 (bf .i64 j (Int.ofNat 1)),none)],{ lock:=false,bs:=[(0,az.row r)] } :: G)))))) (Tr.ok (Ex.exit 2,[(1,AV.slcT none (Row.M [aq.arr .i64 z m]) 1 m false,none),(5,AV.ptrT none R 0,none),(43,AV.slcT none (Row.M [aq.arr .i64 z m]) 1 m false,none),(44,AV.int .i64 (Int.ofNat m),none),(45,AV.int .i64 j,none),(46,AV.bool false,some 1)],{ lock:=false,bs:=[(0,az.row r)] } :: G)):=by kernel_rfl
theorem LN (n:Nat) (r:Row) (G:aa) (m:Nat) (z:Nat→Int) (R:Row) (j:Int):aT (b5 n 39 76) (il aV n 0) bc ba (part Tryd.f39 [1,1,1,1,1,1,0,1,0,0]) (hints (uV m z R j)) (⟨false,[(0,.row r)]⟩::G) =
 Tr.ite (cY j (Int.ofNat m)) (Tr.req (c7 j m) (Tr.req (cI (aM 0 j 1) m) Tr.bad)) (Tr.ok (Ex.exit 2,[(1,AV.slcT none (Row.M [aq.arr .i64 z m]) 1 m false,none),(5,AV.ptrT none R 0,none),(43,AV.slcT none (Row.M [aq.arr .i64 z m]) 1 m false,none),(44,AV.int .i64 (Int.ofNat m),none),(45,AV.int .i64 j,none),(46,AV.bool false,some 1)],{ lock:=false,bs:=[(0,az.row r)] } :: G)):=by kernel_rfl
theorem LO (n:Nat) (dr:Int) (lc:Nat) (zc:Nat→Int) (lb:Nat) (zb:Nat→Int) (W B:Nat→Int) (r:Row) (G:aa) (m:Nat) (z:Nat→Int) (X j:Int):aT (b5 n 39 76) (il aV n 0) bc ba (part Tryd.f39 [1,1,1,1,1,1,1,1,0,1,0,0]) (hints (wv m z (shR dr lc zc lb zb W B) X j)) (⟨false,[(0,.row r)]⟩::G) =
 (fun (Z0:Nat×AV×Option Nat)=>Tr.ite (cY j (Int.ofNat m)) (Tr.req (c7 j m) (Tr.req (cI (aM 0 j 1) m) (Tr.req (c7 (z (aM 0 j 1)) 10) (Tr.req (mS (aM 23 (z (aM 0 j 1)) 1) 1 23 10) (Tr.ite (bz (cK (CR IntKind.u64 (B (ff (aM 23 (z (aM 0 j 1)) 1) 23)) X) (Int.ofNat 0))) (Tr.ok (Ex.ret,[(4,AV.int .i64 (Int.ofNat 16),some 1)],{ lock:=false,bs:=[(0,az.row r)] } :: G)) (Tr.req (eh (Int.ofNat 0) (z (aM 0 j 1))) (Tr.ok (Ex.normal,[Z0,(12,AV.int IntKind.u64 (uq IntKind.u64 X (eG IntKind.u64 (Int.ofNat 1) (z (aM 0 j 1)))),none),(56,AV.slcT none (Row.M [aq.arr .i64 z m]) 1 m false,none),(57,AV.int .i64 (Int.ofNat m),none),(58,AV.int .i64 (bf .i64 j (Int.ofNat 1)),none)],{ lock:=false,bs:=[(0,az.row r)] } :: G)))))))) (Tr.ok (Ex.exit 4,[Z0,(12,AV.int IntKind.u64 X,none),(56,AV.slcT none (Row.M [aq.arr .i64 z m]) 1 m false,none),(57,AV.int .i64 (Int.ofNat m),none),(58,AV.int .i64 j,none),(59,AV.bool false,some 1)],{ lock:=false,bs:=[(0,az.row r)] } :: G))) (5,AV.ptrT none (Row.M [aq.one (AV.int .i64 dr),aq.one (AV.slcT none (Row.M [aq.arr .i64 zc (aw lc 4)]) 4 lc false),aq.one (AV.slcT none (Row.M [aq.arr .i64 zb (aw lb 2)]) 2 lb false),aq.arr .i64 W 20,aq.arr IntKind.u64 B 10]) 0,none):=by kernel_rfl
theorem Tq (n:Nat) (dr:Int) (lc:Nat) (zc:Nat→Int) (lb:Nat) (zb:Nat→Int) (H:aa) (m:Nat) (z S:Nat→Int) (R:Row) (e q r:Bool) (X:Int):bu Tryd.prog (cd n) 100000 39 Tryd.f39 (KtG.kt 39) (il (tX (tX (tX aV 49 [cM dr lc zc lb zb,.nils] (.tup [.ptrT none R 0,.int .i64 (Int.ofNat 0)])) 76 [bF m z false] (nr 0 (bF m z false))) 75 [nr 0 (bF m z false)] (bF m S false)) n 0) (dy (dy (dy bc 0 (sX m z S R (Int.ofNat 0)) (cO dr lc zc lb zb::H) (.ite e (.ok (.ret,[(4,.int .i64 (Int.ofNat 15),none)],cO dr lc zc lb zb::H)) (.ok (.normal,hints (sX m z S R (Int.ofNat m)++[(29,.bool false)]),cO dr lc zc lb zb::H)))) 2 (uV m z R (Int.ofNat 0)) (cO dr lc zc lb zb::H) (.ite q (.ok (.ret,[(4,.int .i64 (Int.ofNat 21),none)],cO dr lc zc lb zb::H)) (.ok (.normal,hints (uV m z R (Int.ofNat m)++[(46,.bool false)]),cO dr lc zc lb zb::H)))) 4 (wv m z R (Int.ofNat 0) (Int.ofNat 0)) (cO dr lc zc lb zb::H) (.ite r (.ok (.ret,[(4,.int .i64 (Int.ofNat 16),none)],cO dr lc zc lb zb::H)) (.ok (.normal,hints (wv m z R X (Int.ofNat m)++[(59,.bool false)]),cO dr lc zc lb zb::H)))) ba [(cM dr lc zc lb zb,none),(bF m z false,none)] H =
 (fun (Z0:Row)=>((fun (Z1:au)=>((fun (Z2:au)=>((fun (Z3:bH)=>((fun (Z4:au)=>((fun (Z5:List AV)=>Tr.reqP ([AV.agg Z0,AV.nils]=[AV.agg Z0,AV.nils]) (Tr.ite (bz (cK (Int.ofNat 0) (Int.ofNat 0))) (Tr.ok ((AV.int .i64 (Int.ofNat 0),none),H)) (Tr.reqP (Z5=Z5) (Tr.reqP ([AV.fn (Fn.func 96) [] [AV.ptrT (some 0) (Row.G Z5) 0]]=[AV.fn (Fn.func 96) [] [AV.ptrT (some 0) (Row.G Z5) 0]]) (Tr.reqP (Z1=Z1∧Z3::H=Z3::H) (Tr.ite e (Tr.ok ((AV.int .i64 (Int.ofNat 15),none),H)) (Tr.ite (bz (cK (Int.ofNat m) (Int.ofNat lc))) (Tr.ok ((AV.int .i64 (Int.ofNat 15),some 1),H)) (Tr.reqP (Z2=Z2∧Z3::H=Z3::H) (Tr.ite q (Tr.ok ((AV.int .i64 (Int.ofNat 21),none),H)) (Tr.reqP (Z4=Z4∧Z3::H=Z3::H) (Tr.ite r (Tr.ok ((AV.int .i64 (Int.ofNat 16),none),H)) (Tr.ok ((AV.int .i64 (Int.ofNat 0),some 1),H))))))))))))) [AV.slcT none (Row.M [aq.arr .i64 z m]) 1 m false])) [(5,AV.ptrT none R 0),(12,AV.int IntKind.u64 (Int.ofNat 0)),(56,AV.slcT none (Row.M [aq.arr .i64 z m]) 1 m false),(57,AV.int .i64 (Int.ofNat m)),(58,AV.int .i64 (Int.ofNat 0))])) { lock:=false,bs:=[(0,az.row Z0)] })) [(1,AV.slcT none (Row.M [aq.arr .i64 z m]) 1 m false),(5,AV.ptrT none R 0),(43,AV.slcT none (Row.M [aq.arr .i64 z m]) 1 m false),(44,AV.int .i64 (Int.ofNat m)),(45,AV.int .i64 (Int.ofNat 0))])) [(1,AV.slcT none (Row.M [aq.arr .i64 z m]) 1 m false),(2,AV.ptr 0 0 0 0),(5,AV.ptrT none R 0),(7,AV.slcT none (Row.M [aq.arr .i64 S m]) 1 m false),(26,AV.slcT none (Row.M [aq.arr .i64 S m]) 1 m false),(27,AV.int .i64 (Int.ofNat m)),(28,AV.int .i64 (Int.ofNat 0))])) (Row.G [AV.int .i64 dr,AV.slcT none (Row.M [aq.arr .i64 zc (aw lc 4)]) 4 lc false,AV.slcT none (Row.M [aq.arr .i64 zb (aw lb 2)]) 2 lb false]):=by kernel_rfl
theorem Pl (n:Nat) (dr:Int) (lc:Nat) (zc:Nat→Int) (lb:Nat) (zb:Nat→Int) (H:aa) (m:Nat) (z S:Nat→Int) (R:Row) (e:Bool):bu Tryd.prog (cd n) 100000 39 Tryd.f39 (KtG.kt 39) (il (tX (tX (tX aV 49 [cM dr lc zc lb zb,.nils] (.tup [.ptrT none R 0,.int .i64 (Int.ofNat 0)])) 76 [bF m z false] (nr 0 (bF m z false))) 75 [nr 0 (bF m z false)] (bF m S false)) n 0) (gH (gH (dy bc 0 (sX m z S R (Int.ofNat 0)) (cO dr lc zc lb zb::H) (.ite e (.ok (.ret,[(4,.int .i64 (Int.ofNat 15),none)],cO dr lc zc lb zb::H)) (.ok (.normal,hints (sX m z S R (Int.ofNat m)++[(29,.bool false)]),cO dr lc zc lb zb::H)))) 2) 4) ba [(cM dr lc zc lb zb,none),(bF m z false,none)] H =
 (fun (Z0:Row)=>((fun (Z1:au)=>((fun (Z2:List AV)=>Tr.reqP ([AV.agg Z0,AV.nils]=[AV.agg Z0,AV.nils]) (Tr.ite (bz (cK (Int.ofNat 0) (Int.ofNat 0))) (Tr.ok ((AV.int .i64 (Int.ofNat 0),none),H)) (Tr.reqP (Z2=Z2) (Tr.reqP ([AV.fn (Fn.func 96) [] [AV.ptrT (some 0) (Row.G Z2) 0]]=[AV.fn (Fn.func 96) [] [AV.ptrT (some 0) (Row.G Z2) 0]]) (Tr.reqP (Z1=Z1∧{ lock:=false,bs:=[(0,az.row Z0)] } :: H={ lock:=false,bs:=[(0,az.row Z0)] } :: H) (Tr.ite e (Tr.ok ((AV.int .i64 (Int.ofNat 15),none),H)) (Tr.ite (bz (cK (Int.ofNat m) (Int.ofNat lc))) (Tr.ok ((AV.int .i64 (Int.ofNat 15),some 1),H)) Tr.bad))))))) [AV.slcT none (Row.M [aq.arr .i64 z m]) 1 m false])) [(1,AV.slcT none (Row.M [aq.arr .i64 z m]) 1 m false),(2,AV.ptr 0 0 0 0),(5,AV.ptrT none R 0),(7,AV.slcT none (Row.M [aq.arr .i64 S m]) 1 m false),(26,AV.slcT none (Row.M [aq.arr .i64 S m]) 1 m false),(27,AV.int .i64 (Int.ofNat m)),(28,AV.int .i64 (Int.ofNat 0))])) (Row.G [AV.int .i64 dr,AV.slcT none (Row.M [aq.arr .i64 zc (aw lc 4)]) 4 lc false,AV.slcT none (Row.M [aq.arr .i64 zb (aw lb 2)]) 2 lb false]):=by kernel_rfl
theorem O4 (n:Nat) (dr:Int) (lc:Nat) (zc:Nat→Int) (lb:Nat) (zb:Nat→Int) (H:aa) (m:Nat) (z S:Nat→Int) (R:Row):bu Tryd.prog (cd n) 100000 39 Tryd.f39 (KtG.kt 39) (il (tX (tX (tX aV 49 [cM dr lc zc lb zb,.nils] (.tup [.ptrT none R 0,.int .i64 (Int.ofNat 0)])) 76 [bF 0 z false] (nr 0 (bF 0 z false))) 75 [nr 0 (bF 0 z false)] .nils) n 0) (gH (gH bc 2) 4) ba [(cM dr lc zc lb zb,none),(bF 0 z false,none)] H =
 (fun (Z0:List AV)=>((fun (Z1:List AV)=>Tr.reqP (Z0=Z0) (Tr.ite (bz (cK (Int.ofNat 0) (Int.ofNat 0))) (Tr.ok ((AV.int .i64 (Int.ofNat 0),none),H)) (Tr.reqP (Z1=Z1) (Tr.reqP ([AV.fn (Fn.func 96) [] [AV.ptrT (some 0) (Row.G Z1) 0]]=[AV.fn (Fn.func 96) [] [AV.ptrT (some 0) (Row.G Z1) 0]]) (Tr.ite (bz (cK (Int.ofNat 0) (Int.ofNat lc))) (Tr.ok ((AV.int .i64 (Int.ofNat 15),some 1),H)) Tr.bad))))) [AV.slcT none (Row.M [aq.arr .i64 z 0]) 1 0 false])) [AV.agg (Row.G [AV.int .i64 dr,AV.slcT none (Row.M [aq.arr .i64 zc (aw lc 4)]) 4 lc false,AV.slcT none (Row.M [aq.arr .i64 zb (aw lb 2)]) 2 lb false]),AV.nils]:=by kernel_rfl
end Go.Eng
end
