/- Bath: slices.Values gone through; slices.Collect. -/
import Derived.Test.YtigmfpmabgekoaaGreatV9Bp1x7
import Derived.Test.YtigmfpmabgekoaaGreatV9Bd2x10
import Derived.Test.YtigmfpmabgekoaaGreatV9Bp7x3
set_option linter.unusedVariables false
set_option linter.unusedSimpArgs false
set_option maxRecDepth 100000
section
namespace Go.Eng
open Go.Proofs
noncomputable def jy (n f nt d i:Nat):Cx:=⟨Tryz.prog,cd n,100000,f,nt,KtB.kt f,some (d,i)⟩
noncomputable def tl (k:Nat) (P:Nat→Int) (j:Int):av:=[(0,.yld 1 1),(5,bc k P false),(6,.int .i64 (Int.ofNat k)),(7,.int .i64 j)]
noncomputable def qi (s:Nat) (A:AV):AV:=.fn (.func 112) [] [.ptrT (some s) (.G [A]) 0]
noncomputable def mw (s:Nat) (A:AV):av:=[(2,.ptr 0 0 0 0),(6,qi (s+1) A)]
noncomputable def La (b:Nat×aj):bx:=⟨false,[(0,.row (.G [.nils])),b]⟩
noncomputable def IZ (v k:Nat) (a:Nat→Int) (b:Nat×aj):bx:=⟨false,[(0,.row (.G [.slc 0 2 v 0 1 k none])),b,(v,.row (.M [.arr .i64 a k]))]⟩
theorem t112 (n k:Nat) (P:Nat→Int) (G G':aa) (j x:Int):aK (bu n 112 16) (Mw (il aI n 0) 1 1 [.int .i64 x] (an::G) (.ok (.bool true,an::G'))) aP aQ (part Tryz.f112 [1,0,0]) (hints (tl k P j)) (an::G) =
 (fun (Z0:Nat×AV×Option Nat)=>Tr.ite (cn j (Int.ofNat k)) (Tr.req (cU j k) (Tr.req (bB (aw 0 j 1) k) (Tr.reqP ([AV.int .i64 (P (aw 0 j 1))]=[AV.int .i64 x]∧an::G=an::G) (Tr.ite (bL true) (Tr.ok (Ex.ret,[(0,AV.yld 1 1,none),Z0,(6,AV.int .i64 (Int.ofNat k),none),(7,AV.int .i64 j,none),(14,AV.bool true,some 1)],an::G')) (Tr.ok (Ex.normal,[(0,AV.yld 1 1,none),Z0,(6,AV.int .i64 (Int.ofNat k),none),(7,AV.int .i64 (aS .i64 j (Int.ofNat 1)),none)],an::G')))))) (Tr.ok (Ex.exit 0,[(0,AV.yld 1 1,none),Z0,(6,AV.int .i64 (Int.ofNat k),none),(7,AV.int .i64 j,none),(8,AV.bool false,some 1)],an::G))) (5,AV.slcT none (Row.M [aM.arr .i64 P k]) 1 k false,none):=by kernel_rfl
theorem MG (n k:Nat) (P:Nat→Int) (G:aa) (j:Int):aK (bu n 112 16) (il aI n 0) aP aQ (part Tryz.f112 [1,0,0]) (hints (tl k P j)) (an::G) =
 Tr.ite (cn j (Int.ofNat k)) (Tr.req (cU j k) (Tr.req (bB (aw 0 j 1) k) Tr.bad)) (Tr.ok (Ex.exit 0,[(0,AV.yld 1 1,none),(5,AV.slcT none (Row.M [aM.arr .i64 P k]) 1 k false,none),(6,AV.int .i64 (Int.ofNat k),none),(7,AV.int .i64 j,none),(8,AV.bool false,some 1)],an::G)):=by kernel_rfl
theorem QE (n s k:Nat) (P:Nat→Int) (G G':aa):bt Tryz.prog (cd n) 100000 112 Tryz.f112 (KtB.kt 112) (il aI n 0) (dJ aP 0 (tl k P (Int.ofNat 0)) (an::G) (.ok (.normal,hints (tl k P (Int.ofNat k)++[(8,.bool false)]),an::G'))) aQ [(.yld 0 1,none),(.ptrT (some s) (.G [bc k P false]) 0,none)] G =
 (fun (Z0:av)=>Tr.reqP (Z0=Z0∧an::G=an::G) (Tr.ok ((AV.tup [],none),G'))) [(0,AV.yld 1 1),(5,AV.slcT none (Row.M [aM.arr .i64 P k]) 1 k false),(6,AV.int .i64 (Int.ofNat k)),(7,AV.int .i64 (Int.ofNat 0))]:=by kernel_rfl
theorem Nt (n s:Nat) (G:aa):bt Tryz.prog (cd n) 100000 112 Tryz.f112 (KtB.kt 112) (il aI n 0) aP aQ [(.yld 0 1,none),(.ptrT (some s) (.G [.nils]) 0,none)] G =
 Tr.ok ((AV.tup [],none),G):=by kernel_rfl
theorem I9 (n s k:Nat) (P:Nat→Int) (bs:List (Nat×aj)) (H:aa) (x:Int):aK (jy n 110 13 2 1) (il aI n 0) aP aQ (part Tryz.f110 [1,0,1,0,0]) (hints [(2,.ptr 2 0 0 0),(6,qi (s+3) (bc k P false)),(7,.int .i64 x)]) (an::an::⟨false,bs⟩::H) =
 Tr.ok (Ex.normal,[(2,AV.ptr 2 0 0 0,none),(5,AV.int .i64 x,none)],an::an::{ lock:=false,bs:=bs } :: H):=by kernel_rfl
theorem MC (n:Nat) (L:dF) (H:aa) (x:Int):aK (jy n 110 13 2 1) (il aI n 0) aP aQ (part Tryz.f110 [1,0,1,0,1]) (hints [(2,.ptr 2 0 0 0),(5,.int .i64 x)]) (an::an::La (0,.loop L)::H) =
 Tr.req (jk 0 1 8) (Tr.req (dS 0 0) (Tr.req (ju 1 1) (Tr.ok (Ex.normal,[],{ lock:=false,bs:=[(0,aj.row (Row.I .i64 [x])),(0,aj.dead)] } :: an::{ lock:=false,bs:=[(0,aj.row (Row.G [AV.slc 0 2 0 0 1 1 none])),(0,aj.loop L),(0,aj.row (Row.M [aM.arr .i64 (bn [x]) 1]))] } :: H)))):=by kernel_rfl
theorem MD (n v k:Nat) (b:Nat→Int) (L:dF) (H:aa) (x:Int):aK (jy n 110 13 2 1) (il aI n 0) aP aQ (part Tryz.f110 [1,0,1,0,1]) (hints [(2,.ptr 2 0 0 0),(5,.int .i64 x)]) (an::an::IZ v k b (0,.loop L)::H) =
 Tr.req (jk k 1 8) (Tr.req (dS 0 0) (Tr.req (ju 1 1) (Tr.req (dS v v) (Tr.req (dS (ak 0 k) k) (Tr.ok (Ex.normal,[],{ lock:=false,bs:=[(0,aj.row (Row.I .i64 [x]))] } :: an::{ lock:=false,bs:=[(0,aj.row (Row.G [AV.slc 0 2 (Nat.succ v) 0 1 (ak k 1) none])),(0,aj.loop L),(Nat.succ v,aj.row (Row.M [aM.arr .i64 (uR (nQ b 0) k (bn [x])) (ak k 1)]))] } :: H)))))):=by kernel_rfl
theorem QD (n s v k m:Nat) (P b:Nat→Int) (H:aa):bt Tryz.prog (cd n) 100000 110 Tryz.f110 (KtB.kt 110) (il aI n 0) aP (I6 aQ (fun _=>true) (mw s (bc k P false)) (⟨false,[(0,.row (.G [.nils]))]⟩::H) (.ok (.normal,hints (mw s (bc k P false)),IZ v m b (0,.dead)::H))) [(.nils,none),(qi s (bc k P false),none)] H =
 (fun (Z0:av)=>Tr.reqP (Z0=Z0∧{ lock:=false,bs:=[(0,aj.row (Row.G [AV.nils]))] } :: H={ lock:=false,bs:=[(0,aj.row (Row.G [AV.nils]))] } :: H) (Tr.req (dS v v) (Tr.req (rF 0 m 0 m) (Tr.ok ((AV.slcT none (Row.M [aM.arr .i64 (nQ b 0) m]) 1 m false,none),H))))) [(2,AV.ptr 0 0 0 0),(6,AV.fn (Fn.func 112) [] [AV.ptrT (some (Nat.succ s)) (Row.G [AV.slcT none (Row.M [aM.arr .i64 P k]) 1 k false]) 0])]:=by kernel_rfl
theorem Ns (n s:Nat) (H:aa):bt Tryz.prog (cd n) 100000 110 Tryz.f110 (KtB.kt 110) (il aI n 0) aP (I6 aQ (fun _=>true) (mw s .nils) (⟨false,[(0,.row (.G [.nils]))]⟩::H) (.ok (.normal,hints (mw s .nils),La (0,.dead)::H))) [(.nils,none),(qi s .nils,none)] H =
 (fun (Z0:av)=>Tr.reqP (Z0=Z0∧{ lock:=false,bs:=[(0,aj.row (Row.G [AV.nils]))] } :: H={ lock:=false,bs:=[(0,aj.row (Row.G [AV.nils]))] } :: H) (Tr.ok ((AV.nils,none),H))) [(2,AV.ptr 0 0 0 0),(6,AV.fn (Fn.func 112) [] [AV.ptrT (some (Nat.succ s)) (Row.G [AV.nils]) 0])]:=by kernel_rfl
theorem Uv (n s k m:Nat) (P b:Nat→Int) (H:aa):bt Tryz.prog (cd n) 100000 92 Tryz.f92 (KtB.kt 92) (il (tX aI 110 [.nils,qi (s+1) (bc k P false)] (bc m b false)) n 0) aP aQ [(qi s (bc k P false),none)] H =
 (fun (Z0:List AV)=>Tr.reqP (Z0=Z0) (Tr.ok ((AV.slcT none (Row.M [aM.arr .i64 b m]) 1 m false,none),H))) [AV.nils,AV.fn (Fn.func 112) [] [AV.ptrT (some (Nat.succ s)) (Row.G [AV.slcT none (Row.M [aM.arr .i64 P k]) 1 k false]) 0]]:=by kernel_rfl
theorem Q1 (n s:Nat) (H:aa):bt Tryz.prog (cd n) 100000 92 Tryz.f92 (KtB.kt 92) (il (tX aI 110 [.nils,qi (s+1) .nils] .nils) n 0) aP aQ [(qi s .nils,none)] H =
 Tr.reqP ([AV.nils,AV.fn (Fn.func 112) [] [AV.ptrT (some (Nat.succ s)) (Row.G [AV.nils]) 0]]=[AV.nils,AV.fn (Fn.func 112) [] [AV.ptrT (some (Nat.succ s)) (Row.G [AV.nils]) 0]]) (Tr.ok ((AV.nils,none),H)):=by kernel_rfl
theorem Eu:∀ b,(0,b) ∈ aV (bM Tryz.f112)→b=.loop (part Tryz.f112 [1,0,0]):=fM (by kernel_rfl)
section
variable (n s k:Nat) (P:Nat→Int)
theorem N6 (St:Nat→aa) (hk:k≤1000) (hr:∀ j,j<k→cd n (.round 1 1) [.int .i64 (P j)] (an::St j)=some (.bool true,an::St (j+1))) :
 cd (n+1) (.fn 112) [.yld 0 1,.ptrT (some s) (.G [bc k P false]) 0] (St 0)=some (.tup [],St k):=by
 have hx:=jz (n:=n) (f:=112) (nt:=16) (c:=part Tryz.f112 [1,0,0]) 0 (fun j=>tl k P (j:Int)) (fun j=>an::St j) k (tl k P (Int.ofNat k)++[(8,.bool false)],an::St k) (by omega) (fun j hj=>?_) ?_
 · refine aX (n:=n) Tryz.func112 rfl rfl rfl (QE n s k P (St 0) (St k)) (aC _) (bg (af _ _) Eu (fun x h=>by rw[← Tr.ab h];simp only[dG.st,aF];exact hx)) (ag _ _) ?_
   exact Tr.aB ⟨rfl,rfl⟩ (Tr.ao ⟨rfl,rfl⟩)
 · refine aE (t112 n k P (St j) (St (j+1)) (j:Int) (P j)) (Bf (aC n) (fun x hy=>by rw[← Tr.ab hy];exact hr j hj)) (af _ _) (ag _ _) ?_
   rw[DG,iu (by omega)]
   generalize St (j+1)=G' at *
   generalize St j=G at *
   exact wF
 · obtain ⟨x,h1,rfl⟩:=aE (Q:=fun x=>x=(.exit 0,tl k P (Int.ofNat k)++[(8,.bool false)],an::St k)) (MG n k P (St k) (Int.ofNat k)) (aC n) (af _ _) (ag _ _) (by
    refine Tr.al (fun hc=>?_) (fun hc=>Tr.ao rfl)
    simp (disch:=omega) only[nV,nW] at hc;omega)
   exact h1
theorem Lh (H:aa):cd (n+1) (.fn 112) [.yld 0 1,.ptrT (some s) (.G [.nils]) 0] H=some (.tup [],H):=by
 refine aX (n:=n) Tryz.func112 rfl rfl rfl (Nt n s H) (aC _) (af _ _) (ag _ _) ?_
 exact wF
end
theorem pY {n d i:Nat} {args:List AV} {H H2 R:aa} {l l2:dF} {fr fr1 fr2:av} {lv:bx}
 (hg:au H d i=(0,.loop l)) (hl:az H d=false) (hs:l.state=.ready) (hp:jL l.nt (kP (d+1) l.fr) l.params (args.map (gC 1))=some fr)
 (h1:exec (jy n l.fn l.nt (d+1) i) l.assign fr (an::H)=some (.normal,fr1,an::H))
 (h2:exec (jy n l.fn l.nt (d+1) i) l.body fr1 (dq (an::H) (d+1) i (0,.loop { l with state:=.busy }))=some (.normal,fr2,lv::H2)) (hg2:au H2 d i=(0,.loop l2)) (hR:R=dq H2 d i (0,.loop { l2 with state:=.ready,pending:=none })) :
 cd (n+1) (.round d i) args H=some (.bool true,R):=by
 rw[hR]
 exact Ad (P:=Tryz.prog) (ora:=nE) (KT:=KtB.kt) (fu:=100000) (e:=.normal) hg hl hs hp h1 (by rw[show au (an::H) (d+1) i=au H d i from rfl];exact hg) hs h2 hg2
theorem ml {n f nt d i:Nat} {c:Code} {callR:bJ} {bl:gH} {rg:r7} {fr:av} {H:aa} {T:Tr dG} (e:aK (jy n f nt d i) callR bl rg c (hints fr) H=T) (hC:callR.Ok (cd n)) (hB:bl.Ok (jy n f nt d i) c) (hR:rg.Ok (jy n f nt d i) c) {y:Ex×av×aa} (h:T.all fun x=>x.st=y):exec (jy n f nt d i) c fr H=some y:=by
 obtain ⟨x,h1,rfl⟩:=h
 have:=mn (cx:=jy n f nt d i) hC c hB hR (hints fr) H x (by rw[e];exact h1)
 rw[aF] at this;exact this
theorem qv {n f nt d i:Nat} {c:Code} {callR:bJ} {bl:gH} {rg:r7} {fr:av} {H:aa} {T:Tr dG} {Q:Ex×av×aa→Prop} (e:aK (jy n f nt d i) callR bl rg c (hints fr) H=T) (hC:callR.Ok (cd n)) (hB:bl.Ok (jy n f nt d i) c) (hR:rg.Ok (jy n f nt d i) c) (h:T.all fun x=>Q x.st):∃ y,exec (jy n f nt d i) c fr H=some y∧Q y:=by
 obtain ⟨x,h1,h2⟩:=h
 have:=mn (cx:=jy n f nt d i) hC c hB hR (hints fr) H x (by rw[e];exact h1)
 rw[aF] at this;exact ⟨_,this,h2⟩
noncomputable def qL:Code:=part Tryz.f110 [1,0,1,0,0]
noncomputable def xB:Code:=part Tryz.f110 [1,0,1,0,1]
theorem Mr:dO (bM Tryz.f110)=[(.tmp 6,#[7],qL,xB)]:=by kernel_rfl
noncomputable def dP (s:Nat) (A:AV):dF:={ state:=.ready,pending:=none,fn:=110,nt:=13,fr:=mw s A,params:=[7],assign:=qL,body:=xB }
noncomputable def L5 (b:Nat×aj):List Int→bx
 | []=>La b
 | a::r=>IZ r.length (r.length+1) (bn (a::r)) b
theorem Ms (n s k:Nat) (P:Nat→Int) (L:List Int) (H:aa) (x:Int) (hL:L.length≤1000) :
 cd (n+1) (.round 1 1) [.int .i64 x] (an::L5 (0,.loop (dP s (bc k P false))) L::H)=some (.bool true,an::L5 (0,.loop (dP s (bc k P false))) (L++[x])::H):=by
 cases L with
 | nil =>
   have h1:exec (jy n 110 13 2 1) qL [(2,.ptr 2 0 0 0),(6,qi (s+3) (bc k P false)),(7,.int .i64 x)] (an::an::La (0,.loop (dP s (bc k P false)))::H)=some (.normal,[(2,.ptr 2 0 0 0),(5,.int .i64 x)],an::an::La (0,.loop (dP s (bc k P false)))::H) :=
    ml (I9 n s k P _ H x) (aC n) (af _ _) (ag _ _) (Tr.ao rfl)
   obtain ⟨y,h2,h3⟩:=qv (Q:=fun y=>y=(.normal,[],⟨false,[(0,.row (.I .i64 [x])),(0,.dead)]⟩::an::IZ 0 1 (bn [x]) (0,.loop { dP s (bc k P false) with state:=.busy })::H)) (MC n { dP s (bc k P false) with state:=.busy } H x) (aC n) (af _ _) (ag _ _) (by
    generalize dP s (bc k P false)=L at *
    exact wF)
   subst h3
   exact pY (l:=dP s (bc k P false)) (l2:={ dP s (bc k P false) with state:=.busy }) rfl rfl rfl rfl h1 h2 rfl rfl
 | cons a r =>
   simp only[List.length_cons] at hL
   have h1:exec (jy n 110 13 2 1) qL [(2,.ptr 2 0 0 0),(6,qi (s+3) (bc k P false)),(7,.int .i64 x)] (an::an::IZ r.length (r.length+1) (bn (a::r)) (0,.loop (dP s (bc k P false)))::H)=some (.normal,[(2,.ptr 2 0 0 0),(5,.int .i64 x)],an::an::IZ r.length (r.length+1) (bn (a::r)) (0,.loop (dP s (bc k P false)))::H) :=
    ml (I9 n s k P _ H x) (aC n) (af _ _) (ag _ _) (Tr.ao rfl)
   have e1:=sn (a::r) x
   simp only[List.length_cons] at e1
   have e3:ak (r.length+1) 1=r.length+1+1:=by rw[a7]
   obtain ⟨y,h2,h3⟩:=qv (Q:=fun y=>y=(.normal,[],⟨false,[(0,.row (.I .i64 [x]))]⟩::an::IZ (r.length+1) (r.length+1+1) (bn (a::r++[x])) (0,.loop { dP s (bc k P false) with state:=.busy })::H)) (MD n r.length (r.length+1) (bn (a::r)) { dP s (bc k P false) with state:=.busy } H x) (aC n) (af _ _) (ag _ _) (by
    rw[e1,e3]
    generalize dP s (bc k P false)=L at *
    generalize bn (a::r++[x])=Y at *
    exact wF)
   subst h3
   have e4:(r++[x]).length=r.length+1:=by simp
   refine pY (l:=dP s (bc k P false)) (l2:={ dP s (bc k P false) with state:=.busy }) rfl rfl rfl rfl h1 h2 rfl ?_
   show an::IZ (r++[x]).length ((r++[x]).length+1) (bn (a::(r++[x]))) _::H=_
   rw[e4];rfl
def q8 (P:Nat→Int) (k:Nat):List Int:=(List.range k).map P
theorem CJ (P:Nat→Int) (k:Nat):q8 P (k+1)=q8 P k++[P k]:=by unfold q8;rw[List.range_succ,List.map_append];rfl
theorem lG (P:Nat→Int) (k:Nat):(q8 P k).length=k:=by simp[q8]
theorem N5 (n s k:Nat) (P:Nat→Int) (H:aa) (hk:k≤1000):cd (n+3) (.fn 110) [.nils,qi s (if k=0 then .nils else bc k P false)] H=some (dA (q8 P k),H):=by
 cases k with
 | zero =>
   rw[if_pos rfl]
   have hx:exec (bu (n+2) 110 13) (.rangeFunc (.tmp 6) #[7] qL xB) (mw s .nils) (⟨false,[(0,.row (.G [.nils]))]⟩::H)=some (.normal,mw s .nils,La (0,.dead)::H) :=
    jj (cx:=bu (n+2) 110 13) (l:=dP s .nils) (f:=.tmp 6) (ps:=#[7]) (fr:=mw s .nils) (H:=⟨false,[(0,.row (.G [.nils]))]⟩::H) (g:=112) (a:=[]) (b:=[.ptrT (some (s+1)) (.G [.nils]) 0]) rfl rfl rfl (Lh (n+1) (s+1) _) rfl rfl rfl
   refine aX (n:=n+2) Tryz.func110 rfl rfl rfl (Ns (n+2) s H) (aC _) (af _ _) (oG (ag _ _) (fun f ps a b _ hm x hx2=>by
    rw[Mr] at hm
    simp only[List.mem_cons,Prod.mk.injEq,List.not_mem_nil,or_false] at hm
    obtain ⟨rfl,rfl,rfl,rfl⟩:=hm
    rw[← Tr.ab hx2];simp only[dG.st,aF];exact hx)) ?_
   exact wF
 | succ k =>
   rw[if_neg (by omega)]
   have hx:exec (bu (n+2) 110 13) (.rangeFunc (.tmp 6) #[7] qL xB) (mw s (bc (k+1) P false)) (⟨false,[(0,.row (.G [.nils]))]⟩::H)=some (.normal,mw s (bc (k+1) P false),cI (L5 (0,.loop (dP s (bc (k+1) P false))) (q8 P (k+1))::H) 0 1) :=
    jj (cx:=bu (n+2) 110 13) (l:=dP s (bc (k+1) P false)) (f:=.tmp 6) (ps:=#[7]) (fr:=mw s (bc (k+1) P false)) (H:=⟨false,[(0,.row (.G [.nils]))]⟩::H) (g:=112) (a:=[]) (b:=[.ptrT (some (s+1)) (.G [bc (k+1) P false]) 0]) rfl rfl rfl
     (N6 (n+1) (s+1) (k+1) P (fun j=>L5 (0,.loop (dP s (bc (k+1) P false))) (q8 P j)::H) hk (fun j hj=>by
       show _=some (_,an::L5 _ (q8 P (j+1))::H)
       rw[CJ]
       exact Ms n s (k+1) P (q8 P j) H (P j) (by rw[lG];omega))) (by
       cases e:q8 P (k+1) with
       | nil=>have:=lG P (k+1);rw[e] at this;cases this
       | cons a r=>rfl) rfl rfl
   have hl:=lG P (k+1)
   cases e:q8 P (k+1) with
   | nil=>rw[e] at hl;cases hl
   | cons a r =>
     rw[e] at hx
     refine aX (n:=n+2) Tryz.func110 rfl rfl rfl (QD (n+2) s r.length (k+1) (r.length+1) P (bn (a::r)) H) (aC _) (af _ _) (oG (ag _ _) (fun f ps a b _ hm x hx2=>by
      rw[Mr] at hm
      simp only[List.mem_cons,Prod.mk.injEq,List.not_mem_nil,or_false] at hm
      obtain ⟨rfl,rfl,rfl,rfl⟩:=hm
      rw[← Tr.ab hx2];simp only[dG.st,aF];exact hx)) ?_
     rw[ij]
     exact wF
theorem R3 (n s k:Nat) (P:Nat→Int) (H:aa) (hk:k≤1000):cd (n+4) (.fn 92) [qi s (if k=0 then .nils else bc k P false)] H=some (dA (q8 P k),H):=by
 have h:=fun q H=>N5 (n+q) (s+1) k P H hk
 cases k with
 | zero =>
   rw[if_pos rfl] at h ⊢
   refine aX (n:=n+3) Tryz.func92 rfl rfl rfl (Q1 (n+3) s H) (eP _ (n+3) 0 (fun q=>bZ (aO _) (fun H=>by rw[show n+3+q=n+q+3 by omega];exact h q H))) (af _ _) (ag _ _) ?_
   exact wF
 | succ k =>
   rw[if_neg (by omega)] at h ⊢
   have hl:=lG P (k+1)
   cases e:q8 P (k+1) with
   | nil=>rw[e] at hl;cases hl
   | cons a r =>
     rw[e] at h
     refine aX (n:=n+3) Tryz.func92 rfl rfl rfl (Uv (n+3) s (k+1) (r.length+1) P (bn (a::r)) H) (eP _ (n+3) 0 (fun q=>bZ (aO _) (fun H=>by rw[show n+3+q=n+q+3 by omega];exact h q H))) (af _ _) (ag _ _) ?_
     exact wF
end Go.Eng
end
section
namespace Go.Eng
open Go.Proofs
theorem JS {n f nt d i:Nat} {c:Code} (id:Nat) (F:Nat→av) (G:Nat→aa) (N:Nat) (p:Nat→Bool) (X:Nat→av×aa) (Y:av×aa) (hN:N<99999)
 (hs:∀ j,j<N→∃ x,exec (jy n f nt d i) c (F j) (G j)=some x∧if p j=true then x=(.ret,X j) else x.1=.normal∧tidy (ar (G 0)) x.2.1 x.2.2=(F (j+1),G (j+1)))
 (he:exec (jy n f nt d i) c (F N) (G N)=some (.exit id,Y)):exec (jy n f nt d i) (.block id (.loop c)) (F 0) (G 0)=some (cond (gB p N) (.ret,X (fN p N 0)) (.normal,Y)):=by
 have key:=ng (body:=exec (jy n f nt d i) c) (n:=ar (G 0)) F G N p (fun j=>if j<N then (.ret,X j) else (.exit id,Y))
  (fun j hj hp=>by
    obtain ⟨x,h1,h2⟩:=hs j hj
    rw[if_neg (by rw[hp];simp)] at h2
    obtain ⟨e,f1,g1⟩:=x
    obtain ⟨rfl,h3⟩:=h2
    exact ⟨_,_,h1,h3⟩)
  (fun j hj hp=>by
    obtain ⟨x,h1,h2⟩:=hs j hj
    rw[if_pos hp] at h2
    subst h2
    rw[if_pos hj]
    exact ⟨h1,by simp⟩)
  (by
    rw[if_neg (by omega)]
    exact ⟨he,by simp⟩) N 0 100000 (by omega) (by omega)
 cases hc:gB p N with
 | true =>
   have:=ky hc
   rw[if_pos this] at key
   exact eL (fun id' h=>by cases h) key
 | false =>
   have:=vK hc
   rw[if_neg (by omega)] at key
   exact lR key

theorem Fb {n f nt d i:Nat} {c:Code} (id:Nat) (F:Nat→av) (G:Nat→aa) (N:Nat) (Y:av×aa) (hN:N<99999)
 (hs:∀ j,j<N→∃ x,exec (jy n f nt d i) c (F j) (G j)=some x∧(x.1=.normal∧tidy (ar (G 0)) x.2.1 x.2.2=(F (j+1),G (j+1))))
 (he:exec (jy n f nt d i) c (F N) (G N)=some (.exit id,Y)):exec (jy n f nt d i) (.block id (.loop c)) (F 0) (G 0)=some (.normal,Y):=by
 have:=JS id F G N (fun _=>false) (fun _=>Y) Y hN (fun j hj=>by
  obtain ⟨x,h1,h2⟩:=hs j hj
  exact ⟨x,h1,by rw[if_neg (by simp)];exact h2⟩) he
 have h0:gB (fun _=>false) N=false:=by
  cases h:gB (fun _=>false) N with
  | false=>rfl
  | true=>obtain ⟨i2,_,h2⟩:=(dv _ _).1 h;cases h2
 rw[h0] at this
 exact this
end Go.Eng
end
section
namespace Go.Eng
open Go.Proofs
end Go.Eng
end
section
namespace Go.Eng
open Go.Proofs
end Go.Eng
end
section
namespace Go.Eng
open Go.Proofs
noncomputable def dN (h:List Int→Bool) (g:List Int→Int) (c:Nat) (h2:List Int→Bool) (g2:List Int→Int) (c2:Nat) (bs:List (Nat×aj)):bx:=⟨false,(0,.fmap (.str 2) h g c)::(0,.fmap (.str 2) h2 g2 c2)::bs⟩
noncomputable def tn (s l m:Nat) (y P:Nat→Int) (K j:Int):av:=[(0,fT (s+1) l y),(1,.int .i64 K),(6,bc m P false),(7,.map 0 0),(8,.map 0 1),(32,.int .i64 (Int.ofNat m)),(33,.int .i64 j)]
noncomputable def px (s l m:Nat) (y P:Nat→Int) (K j f:Int):av:=[(0,fT (s+1) l y),(1,.int .i64 K),(6,bc m P false),(7,.map 0 0),(8,.map 0 1),(9,.int .i64 j),(10,.int .i64 f),(32,.int .i64 (Int.ofNat m)),(33,.int .i64 j)]
noncomputable def pA (s l m:Nat) (y P:Nat→Int) (K j f n:Int):av:=[(0,fT (s+1) l y),(1,.int .i64 K),(6,bc m P false),(7,.map 0 0),(8,.map 0 1),(9,.int .i64 j),(10,.int .i64 f),(32,.int .i64 (Int.ofNat m)),(33,.int .i64 j),(41,.int .i64 K),(42,.int .i64 n)]
noncomputable def OE (Q:Int→Int→Prop) (B A:AV) (a:Int→Int→Int):List AV→Option (Prop×AV)
 | [B',A',.int .i64 f,.int .i64 p]=>some ([B',A']=[B,A]∧Q f p,.int .i64 (a f p))
 | _=>none
theorem Me (n s l:Nat) (y:Nat→Int) (K:Int) (H:aa):aK (bu n 79 156) (il aI n 0) aP aQ (part Tryz.f79 [0]) (hints [(0,fT (s+1) l y),(1,.int .i64 K)]) (an::H) =
 Tr.ok (Ex.normal,[(0,AV.ptrT (some (Nat.succ s)) (Row.G [ay 7 l y]) 0,none),(1,AV.int .i64 K,none)],an::H):=by kernel_rfl
theorem Qw (n s l m:Nat) (y P:Nat→Int) (K j:Int) (h:List Int→Bool) (g:List Int→Int) (c:Nat) (h2:List Int→Bool) (g2:List Int→Int) (c2:Nat) (h':List Int→Bool) (g':List Int→Int) (c':Nat) (h2':List Int→Bool) (g2':List Int→Int) (c2':Nat) (H:aa):aK (bu n 79 156) (il aI n 0) (dJ aP 2 (px s l m y P K j (-1)) (dN h g c h2 g2 c2 []::H) (.ok (.normal,hints (px s l m y P K j j++[(38,.bool false)]),dN h' g' c' h2' g2' c2' []::H))) aQ (part Tryz.f79 [1,1,1,1,0,1,0,0]) (hints (tn s l m y P K j)) (dN h g c h2 g2 c2 []::H) =
 (fun (Z0:av)=>((fun (Z1:bx)=>Tr.ite (cn j (Int.ofNat m)) (Tr.reqP (Z0=Z0∧Z1::H=Z1::H) (Tr.ok (Ex.normal,[(0,AV.ptrT (some (Nat.succ s)) (Row.G [ay 7 l y]) 0,none),(1,AV.int .i64 K,none),(6,AV.slcT none (Row.M [aM.arr .i64 P m]) 1 m false,none),(7,AV.map 0 0,none),(8,AV.map 0 1,none),(32,AV.int .i64 (Int.ofNat m),none),(33,AV.int .i64 (aS .i64 j (Int.ofNat 1)),none)],{ lock:=false,bs:=[(0,aj.fmap (KK.str 2) h' g' c'),(0,aj.fmap (KK.str 2) h2' g2' c2')] } :: H))) (Tr.ok (Ex.exit 0,[(0,AV.ptrT (some (Nat.succ s)) (Row.G [ay 7 l y]) 0,none),(1,AV.int .i64 K,none),(6,AV.slcT none (Row.M [aM.arr .i64 P m]) 1 m false,none),(7,AV.map 0 0,none),(8,AV.map 0 1,none),(32,AV.int .i64 (Int.ofNat m),none),(33,AV.int .i64 j,none),(34,AV.bool false,some 1)],Z1::H))) { lock:=false,bs:=[(0,aj.fmap (KK.str 2) h g c),(0,aj.fmap (KK.str 2) h2 g2 c2)] })) [(0,AV.ptrT (some (Nat.succ s)) (Row.G [ay 7 l y]) 0),(1,AV.int .i64 K),(6,AV.slcT none (Row.M [aM.arr .i64 P m]) 1 m false),(7,AV.map 0 0),(8,AV.map 0 1),(9,AV.int .i64 j),(10,AV.int .i64 (Int.negSucc 0)),(32,AV.int .i64 (Int.ofNat m)),(33,AV.int .i64 j)]:=by kernel_rfl
theorem Qx (n s l m:Nat) (y P:Nat→Int) (K j f:Int) (h:List Int→Bool) (g:List Int→Int) (c:Nat) (h2:List Int→Bool) (g2:List Int→Int) (c2:Nat) (h':List Int→Bool) (g':List Int→Int) (c':Nat) (h2':List Int→Bool) (g2':List Int→Int) (c2':Nat) (H:aa):aK (bu n 79 156) (il aI n 0) (dJ aP 4 (pA s l m y P K j f (Int.ofNat 0)) (dN h g c h2 g2 c2 []::H) (.ok (.normal,hints (pA s l m y P K j f K++[(43,.bool false)]),dN h' g' c' h2' g2' c2' []::H))) aQ (part Tryz.f79 [1,1,1,1,0,1,0,0,1,1,0,0,1,1,0,0]) (hints (px s l m y P K j f)) (dN h g c h2 g2 c2 []::H) =
 (fun (Z0:av)=>((fun (Z1:bx)=>Tr.ite (cn f j) (Tr.reqP (Z0=Z0∧Z1::H=Z1::H) (Tr.ok (Ex.normal,[(0,AV.ptrT (some (Nat.succ s)) (Row.G [ay 7 l y]) 0,none),(1,AV.int .i64 K,none),(6,AV.slcT none (Row.M [aM.arr .i64 P m]) 1 m false,none),(7,AV.map 0 0,none),(8,AV.map 0 1,none),(9,AV.int .i64 j,none),(10,AV.int .i64 (aS .i64 f (Int.ofNat 1)),none),(32,AV.int .i64 (Int.ofNat m),none),(33,AV.int .i64 j,none)],{ lock:=false,bs:=[(0,aj.fmap (KK.str 2) h' g' c'),(0,aj.fmap (KK.str 2) h2' g2' c2')] } :: H))) (Tr.ok (Ex.exit 2,[(0,AV.ptrT (some (Nat.succ s)) (Row.G [ay 7 l y]) 0,none),(1,AV.int .i64 K,none),(6,AV.slcT none (Row.M [aM.arr .i64 P m]) 1 m false,none),(7,AV.map 0 0,none),(8,AV.map 0 1,none),(9,AV.int .i64 j,none),(10,AV.int .i64 f,none),(32,AV.int .i64 (Int.ofNat m),none),(33,AV.int .i64 j,none),(38,AV.bool false,some 1)],Z1::H))) { lock:=false,bs:=[(0,aj.fmap (KK.str 2) h g c),(0,aj.fmap (KK.str 2) h2 g2 c2)] })) [(0,AV.ptrT (some (Nat.succ s)) (Row.G [ay 7 l y]) 0),(1,AV.int .i64 K),(6,AV.slcT none (Row.M [aM.arr .i64 P m]) 1 m false),(7,AV.map 0 0),(8,AV.map 0 1),(9,AV.int .i64 j),(10,AV.int .i64 f),(32,AV.int .i64 (Int.ofNat m)),(33,AV.int .i64 j),(41,AV.int .i64 K),(42,AV.int .i64 (Int.ofNat 0))]:=by kernel_rfl
theorem MW (n s l m:Nat) (y P:Nat→Int) (a:Int→Int→Int) (Q:Int→Int→Prop) (K j f x:Int) (h:List Int→Bool) (g:List Int→Int) (c:Nat) (h2:List Int→Bool) (g2:List Int→Int) (c2:Nat) (H:aa):aK (bu n 79 156) (il (iS aI 93 (OE Q (fT (s+1) l y) (bc m P false) a)) n 0) aP aQ (part Tryz.f79 [1,1,1,1,0,1,0,0,1,1,0,0,1,1,0,0,1,0,0,1,0,0]) (hints (pA s l m y P K j f x)) (dN h g c h2 g2 c2 []::H) =
 (fun (Z0:aT)=>((fun (Z1:bx)=>((fun (Z2:List AV)=>((fun (Z3:bx)=>Tr.ite (cn x K) (Tr.ite (bL (h [f,x])) (Tr.ok (Ex.normal,Z0,Z3::H)) (Tr.reqP (Z2=Z2∧Q f j) (Tr.ite (bL (h [j,aS .i64 x (Int.ofNat 1)])) (Tr.req (g7 (ju 0 0) (ju 0 1)) (Tr.req (g7 (ju 0 0) (ju 0 1)) (Tr.ok (Ex.normal,Z0,Z1::H)))) (Tr.ite (cn (g [j,aS .i64 x (Int.ofNat 1)]) (aS .i64 (g [f,x]) (a f j))) (Tr.req (g7 (ju 0 0) (ju 0 1)) (Tr.req (g7 (ju 0 0) (ju 0 1)) (Tr.ok (Ex.normal,Z0,Z1::H)))) (Tr.ok (Ex.normal,Z0,{ lock:=false,bs:=[(0,aj.fmap (KK.str 2) h g c),(0,aj.fmap (KK.str 2) h2 g2 c2),(0,aj.row (Row.I .i64 [j,aS .i64 x (Int.ofNat 1)]))] } :: H)))))) (Tr.ok (Ex.exit 4,[(0,AV.ptrT (some (Nat.succ s)) (Row.G [ay 7 l y]) 0,none),(1,AV.int .i64 K,none),(6,AV.slcT none (Row.M [aM.arr .i64 P m]) 1 m false,none),(7,AV.map 0 0,none),(8,AV.map 0 1,none),(9,AV.int .i64 j,none),(10,AV.int .i64 f,none),(32,AV.int .i64 (Int.ofNat m),none),(33,AV.int .i64 j,none),(41,AV.int .i64 K,none),(42,AV.int .i64 x,none),(43,AV.bool false,some 1)],Z3::H))) { lock:=false,bs:=[(0,aj.fmap (KK.str 2) h g c),(0,aj.fmap (KK.str 2) h2 g2 c2)] })) [AV.ptrT (some (Nat.succ s)) (Row.G [ay 7 l y]) 0,AV.slcT none (Row.M [aM.arr .i64 P m]) 1 m false])) { lock:=false,bs:=[(0,aj.fmap (KK.str 2) (mW h [j,aS .i64 x (Int.ofNat 1)] true) (nO g [j,aS .i64 x (Int.ofNat 1)] (aS .i64 (g [f,x]) (a f j))) (rj (h [j,aS .i64 x (Int.ofNat 1)]) c)),(0,aj.fmap (KK.str 2) (mW (mW h2 [j,aS .i64 x (Int.ofNat 1)] false) [j,aS .i64 x (Int.ofNat 1)] true) (nO (nO g2 [j,aS .i64 x (Int.ofNat 1)] (Int.ofNat 0)) [j,aS .i64 x (Int.ofNat 1)] f) (rj (mW h2 [j,aS .i64 x (Int.ofNat 1)] false [j,aS .i64 x (Int.ofNat 1)]) (BR (h2 [j,aS .i64 x (Int.ofNat 1)]) c2))),(0,aj.row (Row.I .i64 [j,aS .i64 x (Int.ofNat 1)]))] })) [(0,AV.ptrT (some (Nat.succ s)) (Row.G [ay 7 l y]) 0,none),(1,AV.int .i64 K,none),(6,AV.slcT none (Row.M [aM.arr .i64 P m]) 1 m false,none),(7,AV.map 0 0,none),(8,AV.map 0 1,none),(9,AV.int .i64 j,none),(10,AV.int .i64 f,none),(32,AV.int .i64 (Int.ofNat m),none),(33,AV.int .i64 j,none),(41,AV.int .i64 K,none),(42,AV.int .i64 (aS .i64 x (Int.ofNat 1)),none)]:=by kernel_rfl
theorem NY:∀ b,(4,b) ∈ aV (part Tryz.f79 [1,1,1,1,0,1,0,0,1,1,0,0,1,1,0,0])→b=.loop (part Tryz.f79 [1,1,1,1,0,1,0,0,1,1,0,0,1,1,0,0,1,0,0,1,0,0]):=fM (by kernel_rfl)
theorem NX:∀ b,(2,b) ∈ aV (part Tryz.f79 [1,1,1,1,0,1,0,0])→b=.loop (part Tryz.f79 [1,1,1,1,0,1,0,0,1,1,0,0,1,1,0,0]):=fM (by kernel_rfl)
theorem NZ:∀ b,(0,b) ∈ aV (part Tryz.f79 [1,1,1,1,0])→b=.loop (part Tryz.f79 [1,1,1,1,0,1,0,0]):=fM (by kernel_rfl)
noncomputable def kf (s:MS) (bs:List (Nat×aj)):bx:=dN s.h s.g s.c s.h2 s.g2 s.c2 bs
def NK (m:Nat) (f p:Int):Prop:=(-1≤f∧f<m)∧0≤p∧p<m
theorem Fk {n s l m:Nat} {z P:Nat→Int} {t:l9} (h:bD l z=0) (hm:m≤1000) (ht:t.Ok (cd (n+3))):(iS t 93 (OE (NK m) (fT s l (oY z l)) (bc m P false) (eR l z P))).Ok (cd (n+3)):=by
 refine dY ht (fun args p v hg hp H=>?_)
 unfold OE at hg
 split at hg
 · simp only[nP] at hg
   obtain ⟨rfl,rfl⟩:=hg
   obtain ⟨e,h1,h2⟩:=hp
   simp only[List.cons.injEq,and_true] at e
   obtain ⟨rfl,rfl⟩:=e
   exact R4 n s l m z P H _ _ h hm h1 h2
 · cases hg
section
variable (n s l m:Nat) (z P:Nat→Int) (H:aa)
theorem BC (h:bD l z=0) (f p:Int):0≤eR l z P f p∧eR l z P f p≤1400000:=by
 obtain ⟨hl,hz⟩:=bI h
 have hw:∀ i,i<l→0≤cF z i∧cF z i≤100000:=fun i hi=>by
  have:=hz i hi
  unfold cF;omega
 obtain ⟨h1,h2⟩:=Em (N:=l) (lo:=bE z) (hi:=bG z) (P:=P) (fun i hi=>(hw i hi).1) f p
 have h3:∀ j,j≤l→gG (cF z) j≤(j:Int)*100000:=by
  intro j
  induction j with
  | zero=>intro _;show (0:Int)≤_;omega
  | succ j ih =>
    intro hj
    have:=ih (by omega)
    have:=hw j (by omega)
    show gG (cF z) j+cF z j≤_
    omega
 have:=h3 l (Nat.le_refl _)
 unfold eR
 omega
theorem PH (K:Nat) (j f:Int) (S:MS) (h:bD l z=0) (hK:K≤15) (hm:m≤14) (hf:-1≤f∧f<j) (hj:0≤j∧j<m) (hB:GC 1400000 S):exec (bu (n+3) 79 156) (.block 4 (.loop (part Tryz.f79 [1,1,1,1,0,1,0,0,1,1,0,0,1,1,0,0,1,0,0,1,0,0]))) (pA s l m (oY z l) P K j f (Int.ofNat 0)) (kf S []::H)=some (.normal,pA s l m (oY z l) P K j f K++[(43,.bool false)],kf (g6 (eR l z P) j f K S) []::H):=by
 refine jz 4 (fun i=>pA s l m (oY z l) P K j f (i:Nat)) (fun i=>kf (g6 (eR l z P) j f i S) []::H) K (pA s l m (oY z l) P K j f K++[(43,.bool false)],kf (g6 (eR l z P) j f K S) []::H) (by omega) (fun i hi=>?_) ?_
 · have hB2:=Jw (a:=eR l z P) (W:=1400000) (fun f p=>BC l z P h f p) (p:=j) (f:=f) hB i
   have e1:aS .i64 (i:Int) (Int.ofNat 1)=((i+1:Nat):Int):=iu (by omega)
   have hst:g6 (eR l z P) j f (i+1) S=m4 (eR l z P) j f i (g6 (eR l z P) j f i S):=rfl
   have ha:=BC l z P h f j
   have hQ:NK m f j:=⟨⟨hf.1,by omega⟩,hj⟩
   generalize g6 (eR l z P) j f (i+1) S=S2 at *
   generalize g6 (eR l z P) j f i S=S1 at *
   refine aE (MW (n+3) s l m (oY z l) P (eR l z P) (NK m) K j f (i:Nat) S1.h S1.g S1.c S1.h2 S1.g2 S1.c2 H) (eP _ (n+3) 0 (fun q=>?_)) (af _ _) (ag _ _) ?_
   · rw[show n+3+q=n+q+3 by omega]
     exact Fk h (by omega) (aO _)
   · rw[e1]
     have hjj:((i+1:Nat):Int)=(i:Int)+1:=rfl
     rw[hjj]
     show Tr.all _ (fun x=>_∧tidy _ _ _=(pA s l m (oY z l) P K j f ((i:Int)+1),kf S2 []::H))
     cases c1:S1.h [f,(i:Int)] with
     | false =>
       have e2:S2=S1:=by rw[hst];unfold m4;rw[if_neg (by rw[c1];decide)]
       subst e2
       exact wF
     | true =>
       obtain ⟨b1,b2,b3⟩:=hB2 f i c1
       have ea:aS .i64 (S1.g [f,(i:Int)]) (eR l z P f j)=S1.g [f,(i:Int)]+eR l z P f j:=by rw[cD];exact cq (by omega) (by omega)
       rw[ea]
       cases c2:I8 (eR l z P) j f i S1 with
       | false =>
         have e2:S2=S1:=by rw[hst];unfold m4;rw[if_pos c1,if_neg (by rw[c2];decide)]
         subst e2
         unfold I8 at c2
         rw[Bool.or_eq_false_iff,Bool.not_eq_false',decide_eq_false_iff_not] at c2
         obtain ⟨c3,c4⟩:=c2
         rw[c3]
         generalize eR l z P f j=A at *
         exact wF
       | true =>
         have e2:S2=⟨dE S1.h [j,(i:Int)+1] true,fF S1.g [j,(i:Int)+1] (S1.g [f,(i:Int)]+eR l z P f j),o9 (S1.h [j,(i:Int)+1]) S1.c,dE (dE S1.h2 [j,(i:Int)+1] false) [j,(i:Int)+1] true,fF (fF S1.g2 [j,(i:Int)+1] 0) [j,(i:Int)+1] f,o9 (dE S1.h2 [j,(i:Int)+1] false [j,(i:Int)+1]) (yr (S1.h2 [j,(i:Int)+1]) S1.c2)⟩:=by
          rw[hst];unfold m4;rw[if_pos c1,if_pos c2]
         subst e2
         unfold I8 at c2
         rw[Bool.or_eq_true,Bool.not_eq_true',decide_eq_true_eq] at c2
         simp only[p6,p7,sY,yt]
         generalize eR l z P f j=A at *
         cases c3:S1.h [j,(i:Int)+1] with
         | false =>
           exact wF
         | true =>
           have c4:=c2.resolve_left (by rw[c3];decide)
           exact wF
 · obtain ⟨x,h1,rfl⟩:=aE (Q:=fun x=>x=(.exit 4,pA s l m (oY z l) P K j f K++[(43,.bool false)],kf (g6 (eR l z P) j f K S) []::H)) (MW (n+3) s l m (oY z l) P (eR l z P) (NK m) K j f K (g6 (eR l z P) j f K S).h (g6 (eR l z P) j f K S).g (g6 (eR l z P) j f K S).c (g6 (eR l z P) j f K S).h2 (g6 (eR l z P) j f K S).g2 (g6 (eR l z P) j f K S).c2 H) (eP _ (n+3) 0 (fun q=>by rw[show n+3+q=n+q+3 by omega];exact Fk h (by omega) (aO _))) (af _ _) (ag _ _) (by
    refine Tr.al (fun hc=>?_) (fun hc=>Tr.ao rfl)
    simp (disch:=omega) only[nV,nW] at hc;omega)
   exact h1
end
end Go.Eng
end
section
namespace Go.Eng
open Go.Proofs
theorem MV (n s l m:Nat) (y P:Nat→Int) (K j f:Int) (h:List Int→Bool) (g:List Int→Int) (c:Nat) (h2:List Int→Bool) (g2:List Int→Int) (c2:Nat) (H:aa):aK (bu n 79 156) (il aI n 0) (lY aP 4) aQ (part Tryz.f79 [1,1,1,1,0,1,0,0,1,1,0,0,1,1,0,0]) (hints (px s l m y P K j f)) (dN h g c h2 g2 c2 []::H) =
 Tr.ite (cn f j) Tr.bad (Tr.ok (Ex.exit 2,[(0,AV.ptrT (some (Nat.succ s)) (Row.G [ay 7 l y]) 0,none),(1,AV.int .i64 K,none),(6,AV.slcT none (Row.M [aM.arr .i64 P m]) 1 m false,none),(7,AV.map 0 0,none),(8,AV.map 0 1,none),(9,AV.int .i64 j,none),(10,AV.int .i64 f,none),(32,AV.int .i64 (Int.ofNat m),none),(33,AV.int .i64 j,none),(38,AV.bool false,some 1)],{ lock:=false,bs:=[(0,aj.fmap (KK.str 2) h g c),(0,aj.fmap (KK.str 2) h2 g2 c2)] } :: H)):=by kernel_rfl
theorem MU (n s l m:Nat) (y P:Nat→Int) (K j:Int) (h:List Int→Bool) (g:List Int→Int) (c:Nat) (h2:List Int→Bool) (g2:List Int→Int) (c2:Nat) (H:aa):aK (bu n 79 156) (il aI n 0) (lY aP 2) aQ (part Tryz.f79 [1,1,1,1,0,1,0,0]) (hints (tn s l m y P K j)) (dN h g c h2 g2 c2 []::H) =
 Tr.ite (cn j (Int.ofNat m)) Tr.bad (Tr.ok (Ex.exit 0,[(0,AV.ptrT (some (Nat.succ s)) (Row.G [ay 7 l y]) 0,none),(1,AV.int .i64 K,none),(6,AV.slcT none (Row.M [aM.arr .i64 P m]) 1 m false,none),(7,AV.map 0 0,none),(8,AV.map 0 1,none),(32,AV.int .i64 (Int.ofNat m),none),(33,AV.int .i64 j,none),(34,AV.bool false,some 1)],{ lock:=false,bs:=[(0,aj.fmap (KK.str 2) h g c),(0,aj.fmap (KK.str 2) h2 g2 c2)] } :: H)):=by kernel_rfl
section
variable (n s l m:Nat) (z P:Nat→Int) (H:aa)
theorem PG (K p:Nat) (S:MS) (h:bD l z=0) (hK:K≤15) (hm:m≤14) (hj:p<m) (hB:GC 1400000 S):exec (bu (n+3) 79 156) (.block 2 (.loop (part Tryz.f79 [1,1,1,1,0,1,0,0,1,1,0,0,1,1,0,0]))) (px s l m (oY z l) P K p (-1)) (kf S []::H)=some (.normal,px s l m (oY z l) P K p p++[(38,.bool false)],kf (lX (eR l z P) K p (p+1) S) []::H):=by
 refine jz 2 (fun i=>px s l m (oY z l) P K p ((i:Int)-1)) (fun i=>kf (lX (eR l z P) K p i S) []::H) (p+1) (px s l m (oY z l) P K p p++[(38,.bool false)],kf (lX (eR l z P) K p (p+1) S) []::H) (by omega) (fun i hi=>?_) ?_
 · have hB2:=Jv (a:=eR l z P) (W:=1400000) (fun f p=>BC l z P h f p) (K:=K) (p:=p) hB i
   have hst:lX (eR l z P) K p (i+1) S=g6 (eR l z P) p ((i:Int)-1) K (lX (eR l z P) K p i S):=rfl
   have e1:aS .i64 ((i:Int)-1) (Int.ofNat 1)=((i+1:Nat):Int)-1:=by rw[cD,show Int.ofNat 1=1 from rfl,cq (by omega) (by omega)];omega
   rw[hst]
   have hx:=PH n s l m z P H K p ((i:Int)-1) (lX (eR l z P) K p i S) h hK hm (by omega) (by omega) hB2
   generalize g6 (eR l z P) p ((i:Int)-1) K (lX (eR l z P) K p i S)=S2 at *
   generalize lX (eR l z P) K p i S=S1 at *
   refine aE (Qx (n+3) s l m (oY z l) P K p ((i:Int)-1) S1.h S1.g S1.c S1.h2 S1.g2 S1.c2 S2.h S2.g S2.c S2.h2 S2.g2 S2.c2 H) (aC _) (bg (af _ _) NY (fun x h=>by rw[← Tr.ab h];simp only[dG.st,aF];exact hx)) (ag _ _) ?_
   rw[e1]
   exact wF
 · have e:((p+1:Nat):Int)-1=p:=by omega
   rw[e]
   generalize lX (eR l z P) K p (p+1) S=S2 at *
   obtain ⟨x,h1,rfl⟩:=aE (Q:=fun x=>x=(.exit 2,px s l m (oY z l) P K p p++[(38,.bool false)],kf S2 []::H)) (MV (n+3) s l m (oY z l) P K p p S2.h S2.g S2.c S2.h2 S2.g2 S2.c2 H) (aC _) (eC (af _ _) 4) (ag _ _) (by
    refine Tr.al (fun hc=>?_) (fun hc=>Tr.ao rfl)
    simp (disch:=omega) only[nV,nW] at hc;omega)
   exact h1
theorem PI (K:Nat) (h:bD l z=0) (hK:K≤15) (hm:m≤14):exec (bu (n+3) 79 156) (.block 0 (.loop (part Tryz.f79 [1,1,1,1,0,1,0,0]))) (tn s l m (oY z l) P K (Int.ofNat 0)) (kf cV []::H)=some (.normal,tn s l m (oY z l) P K (Int.ofNat m)++[(34,.bool false)],kf (gf (eR l z P) K m cV) []::H):=by
 refine jz 0 (fun i=>tn s l m (oY z l) P K (i:Nat)) (fun i=>kf (gf (eR l z P) K i cV) []::H) m (tn s l m (oY z l) P K (Int.ofNat m)++[(34,.bool false)],kf (gf (eR l z P) K m cV) []::H) (by omega) (fun i hi=>?_) ?_
 · have hB2:=Jx (a:=eR l z P) (W:=1400000) (fun f p=>BC l z P h f p) (K:=K) i
   have e1:aS .i64 (i:Int) (Int.ofNat 1)=((i+1:Nat):Int):=iu (by omega)
   have hst:gf (eR l z P) K (i+1) cV=lX (eR l z P) K i (i+1) (gf (eR l z P) K i cV):=rfl
   rw[hst]
   have hx:=PG n s l m z P H K i (gf (eR l z P) K i cV) h hK hm hi hB2
   generalize lX (eR l z P) K i (i+1) (gf (eR l z P) K i cV)=S2 at *
   generalize gf (eR l z P) K i cV=S1 at *
   refine aE (Qw (n+3) s l m (oY z l) P K (i:Nat) S1.h S1.g S1.c S1.h2 S1.g2 S1.c2 S2.h S2.g S2.c S2.h2 S2.g2 S2.c2 H) (aC _) (bg (af _ _) NX (fun x h=>by rw[← Tr.ab h];simp only[dG.st,aF];exact hx)) (ag _ _) ?_
   rw[e1]
   exact wF
 · generalize gf (eR l z P) K m cV=S2 at *
   obtain ⟨x,h1,rfl⟩:=aE (Q:=fun x=>x=(.exit 0,tn s l m (oY z l) P K (Int.ofNat m)++[(34,.bool false)],kf S2 []::H)) (MU (n+3) s l m (oY z l) P K (Int.ofNat m) S2.h S2.g S2.c S2.h2 S2.g2 S2.c2 H) (aC _) (eC (af _ _) 2) (ag _ _) (by
    refine Tr.al (fun hc=>?_) (fun hc=>Tr.ao rfl)
    simp (disch:=omega) only[nV,nW] at hc;omega)
   exact h1
end
end Go.Eng
end
section
namespace Go.Eng
open Go.Proofs
open Go.Proofs.YtigmfpmabgekoaaGreat.Known (mostS mostL most)
noncomputable def fb (x y:Int):Nat×aj:=(0,.row (.I .i64 [x,y]))
noncomputable def IT (s l m:Nat) (y P:Nat→Int) (K:Int):av:=[(0,fT (s+1) l y),(1,.int .i64 K),(6,bc m P false),(7,.map 0 0),(8,.map 0 1)]
theorem PX (n s l m:Nat) (y P:Nat→Int) (K:Int) (h:List Int→Bool) (g:List Int→Int) (c:Nat) (h2:List Int→Bool) (g2:List Int→Int) (c2:Nat) (h':List Int→Bool) (g':List Int→Int) (c':Nat) (h2':List Int→Bool) (g2':List Int→Int) (c2':Nat) (H:aa):aK (bu n 79 156) (il aI n 0) (dJ aP 0 (tn s l m y P K (Int.ofNat 0)) (dN h g c h2 g2 c2 []::H) (.ok (.normal,hints (tn s l m y P K (Int.ofNat m)++[(34,.bool false)]),dN h' g' c' h2' g2' c2' []::H))) aQ (part Tryz.f79 [1,1,1,1,0]) (hints (IT s l m y P K)) (dN h g c h2 g2 c2 []::H) =
 (fun (Z0:av)=>((fun (Z1:bx)=>Tr.reqP (Z0=Z0∧Z1::H=Z1::H) (Tr.ok (Ex.normal,[(0,AV.ptrT (some (Nat.succ s)) (Row.G [ay 7 l y]) 0,none),(1,AV.int .i64 K,none),(6,AV.slcT none (Row.M [aM.arr .i64 P m]) 1 m false,none),(7,AV.map 0 0,none),(8,AV.map 0 1,none),(32,AV.int .i64 (Int.ofNat m),none),(33,AV.int .i64 (Int.ofNat m),none),(34,AV.bool false,none)],{ lock:=false,bs:=[(0,aj.fmap (KK.str 2) h' g' c'),(0,aj.fmap (KK.str 2) h2' g2' c2')] } :: H))) { lock:=false,bs:=[(0,aj.fmap (KK.str 2) h g c),(0,aj.fmap (KK.str 2) h2 g2 c2)] })) [(0,AV.ptrT (some (Nat.succ s)) (Row.G [ay 7 l y]) 0),(1,AV.int .i64 K),(6,AV.slcT none (Row.M [aM.arr .i64 P m]) 1 m false),(7,AV.map 0 0),(8,AV.map 0 1),(32,AV.int .i64 (Int.ofNat m)),(33,AV.int .i64 (Int.ofNat 0))]:=by kernel_rfl
theorem PY (n s l m:Nat) (y P:Nat→Int) (K:Int) (h:List Int→Bool) (g:List Int→Int) (c:Nat) (h2:List Int→Bool) (g2:List Int→Int) (c2:Nat) (H:aa):aK (bu n 79 156) (il aI n 0) aP aQ (part Tryz.f79 [1,1,1,1,1,0]) (hints (tn s l m y P K (Int.ofNat m)++[(34,.bool false)])) (dN h g c h2 g2 c2 []::H) =
 Tr.ok (Ex.normal,[(6,AV.slcT none (Row.M [aM.arr .i64 P m]) 1 m false,none),(7,AV.map 0 0,none),(8,AV.map 0 1,none),(17,AV.ptr 0 2 0 0,none)],{ lock:=false,bs:=[(0,aj.fmap (KK.str 2) h g c),(0,aj.fmap (KK.str 2) h2 g2 c2),(0,aj.row (Row.I .i64 [Int.negSucc 0,Int.ofNat 0]))] } :: H):=by kernel_rfl
theorem Mn (n m:Nat) (P:Nat→Int) (h:List Int→Bool) (g:List Int→Int) (c:Nat) (h2:List Int→Bool) (g2:List Int→Int) (c2:Nat) (x y:Int) (H:aa):(Go.Proofs.YtigmfpmabgekoaaGreat.Known.mostS).Bc (bu n 79 156) (il aI n 0) (hints [(6,bc m P false),(7,.map 0 0),(8,.map 0 1),(17,.ptr 0 2 0 0)]) (dN h g c h2 g2 c2 [fb x y]::H) =
 Tr.ok ([(6,AV.slcT none (Row.M [aM.arr .i64 P m]) 1 m false,none),(7,AV.map 0 0,none),(8,AV.map 0 1,none),(17,AV.ptr 0 2 0 0,none),(90,AV.map 0 0,none)],{ lock:=false,bs:=[(0,aj.fmap (KK.str 2) h g c),(0,aj.fmap (KK.str 2) h2 g2 c2),(0,aj.row (Row.I .i64 [x,y]))] } :: H):=by kernel_rfl
theorem P4 (n m:Nat) (P:Nat→Int) (h:List Int→Bool) (g:List Int→Int) (c:Nat) (h2:List Int→Bool) (g2:List Int→Int) (c2:Nat) (b1 b2 b3:List (Nat×aj)) (a b v x y:Int):(Go.Proofs.YtigmfpmabgekoaaGreat.Known.mostL).oH (bu n 79 156) (il aI n 0) aP aQ 3 4 (.agg (.I .i64 [a,b]),.int .i64 v) (hints [(6,bc m P false),(7,.map 4 0),(8,.map 0 1),(17,.ptr 0 2 0 0),(91,.ptr 0 3 0 0)]) (⟨false,[(0,.dead),(0,.fmap (.str 2) h2 g2 c2),fb x y,(0,.dead)]⟩::[⟨true,b1⟩,⟨true,b2⟩,⟨true,b3⟩,iy (.fmap (.str 2) h g c)]) =
 (fun (Z0:aT)=>((fun (Z1:bx)=>((fun (Z2:bx)=>((fun (Z3:bx)=>Tr.ite (cn (g [x,y]) v) (Tr.ok (Z0,[Z2,{ lock:=true,bs:=b1 },{ lock:=true,bs:=b2 },{ lock:=true,bs:=b3 },Z1])) (Tr.ite (c5 v (g [x,y])) (Tr.ite (cn b y) (Tr.ok (Z0,[Z2,{ lock:=true,bs:=b1 },{ lock:=true,bs:=b2 },{ lock:=true,bs:=b3 },Z1])) (Tr.ite (c5 b y) (Tr.ite (cn a x) (Tr.ok (Z0,[Z2,{ lock:=true,bs:=b1 },{ lock:=true,bs:=b2 },{ lock:=true,bs:=b3 },Z1])) (Tr.ok (Z0,[Z3,{ lock:=true,bs:=b1 },{ lock:=true,bs:=b2 },{ lock:=true,bs:=b3 },Z1]))) (Tr.ok (Z0,[Z3,{ lock:=true,bs:=b1 },{ lock:=true,bs:=b2 },{ lock:=true,bs:=b3 },Z1])))) (Tr.ok (Z0,[Z3,{ lock:=true,bs:=b1 },{ lock:=true,bs:=b2 },{ lock:=true,bs:=b3 },Z1])))) { lock:=false,bs:=[(0,aj.dead),(0,aj.fmap (KK.str 2) h2 g2 c2),(0,aj.row (Row.I .i64 [x,y])),(0,aj.dead)] })) { lock:=false,bs:=[(0,aj.dead),(0,aj.fmap (KK.str 2) h2 g2 c2),(0,aj.row (Row.I .i64 [a,b])),(0,aj.dead)] })) { lock:=true,bs:=[(0,aj.fmap (KK.str 2) h g c)] })) [(6,AV.slcT none (Row.M [aM.arr .i64 P m]) 1 m false,none),(7,AV.map 4 0,none),(8,AV.map 0 1,none),(17,AV.ptr 0 2 0 0,none),(91,AV.ptr 0 3 0 0,none)]:=by kernel_rfl
theorem P5 (n m:Nat) (P:Nat→Int) (h:List Int→Bool) (g:List Int→Int) (c:Nat) (h2:List Int→Bool) (g2:List Int→Int) (c2:Nat) (b1 b2 b3:List (Nat×aj)) (a b v x y:Int):(Go.Proofs.YtigmfpmabgekoaaGreat.Known.mostL).oH (bu n 79 156) (il aI n 0) aP aQ 3 4 (.agg (.I .i64 [a,b]),.int .i64 v) (hints [(6,bc m P false),(7,.map 4 0),(8,.map 0 1),(17,.ptr 0 2 0 0),(90,.map 4 0),(91,.ptr 0 3 0 0)]) (⟨false,[(0,.dead),(0,.fmap (.str 2) h2 g2 c2),fb x y,(0,.dead)]⟩::[⟨true,b1⟩,⟨true,b2⟩,⟨true,b3⟩,iy (.fmap (.str 2) h g c)]) =
 (fun (Z0:aT)=>((fun (Z1:bx)=>((fun (Z2:bx)=>((fun (Z3:bx)=>Tr.ite (cn (g [x,y]) v) (Tr.ok (Z0,[Z2,{ lock:=true,bs:=b1 },{ lock:=true,bs:=b2 },{ lock:=true,bs:=b3 },Z1])) (Tr.ite (c5 v (g [x,y])) (Tr.ite (cn b y) (Tr.ok (Z0,[Z2,{ lock:=true,bs:=b1 },{ lock:=true,bs:=b2 },{ lock:=true,bs:=b3 },Z1])) (Tr.ite (c5 b y) (Tr.ite (cn a x) (Tr.ok (Z0,[Z2,{ lock:=true,bs:=b1 },{ lock:=true,bs:=b2 },{ lock:=true,bs:=b3 },Z1])) (Tr.ok (Z0,[Z3,{ lock:=true,bs:=b1 },{ lock:=true,bs:=b2 },{ lock:=true,bs:=b3 },Z1]))) (Tr.ok (Z0,[Z3,{ lock:=true,bs:=b1 },{ lock:=true,bs:=b2 },{ lock:=true,bs:=b3 },Z1])))) (Tr.ok (Z0,[Z3,{ lock:=true,bs:=b1 },{ lock:=true,bs:=b2 },{ lock:=true,bs:=b3 },Z1])))) { lock:=false,bs:=[(0,aj.dead),(0,aj.fmap (KK.str 2) h2 g2 c2),(0,aj.row (Row.I .i64 [x,y])),(0,aj.dead)] })) { lock:=false,bs:=[(0,aj.dead),(0,aj.fmap (KK.str 2) h2 g2 c2),(0,aj.row (Row.I .i64 [a,b])),(0,aj.dead)] })) { lock:=true,bs:=[(0,aj.fmap (KK.str 2) h g c)] })) [(6,AV.slcT none (Row.M [aM.arr .i64 P m]) 1 m false,none),(7,AV.map 4 0,none),(8,AV.map 0 1,none),(17,AV.ptr 0 2 0 0,none),(91,AV.ptr 0 3 0 0,none)]:=by kernel_rfl
theorem PZ (n D m:Nat) (P:Nat→Int) (h2:List Int→Bool) (g2:List Int→Int) (c2:Nat) (R:aa) (x y:Int):(Go.Proofs.YtigmfpmabgekoaaGreat.Known.mostL).zj (bu n 79 156) (il aI n 0) (hints [(6,bc m P false),(7,.map D 0),(8,.map 0 1),(17,.ptr 0 2 0 0),(91,.ptr 0 3 0 0)]) (⟨false,[(0,.dead),(0,.fmap (.str 2) h2 g2 c2),fb x y,(0,.dead)]⟩::R) =
 Tr.ok ([(6,AV.slcT none (Row.M [aM.arr .i64 P m]) 1 m false,none),(7,AV.map D 0,none),(8,AV.map 0 1,none),(17,AV.ptr 0 2 0 0,none),(91,AV.ptr 0 3 0 0,none),(92,AV.tup [AV.bool false],none),(93,AV.bool false,none)],{ lock:=false,bs:=[(0,aj.dead),(0,aj.fmap (KK.str 2) h2 g2 c2),(0,aj.row (Row.I .i64 [x,y])),(0,aj.dead)] } :: R):=by kernel_rfl
end Go.Eng
end
