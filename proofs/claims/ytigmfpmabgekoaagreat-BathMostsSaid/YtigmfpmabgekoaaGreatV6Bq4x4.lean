/- Bath: slices.Values gone through; slices.Collect. -/
import Derived.Test.YtigmfpmabgekoaaGreatV6Bq3x2
import Derived.Test.YtigmfpmabgekoaaGreatV6Be1x17
import Derived.Test.YtigmfpmabgekoaaGreatV6EngRnT
set_option linter.unusedVariables false
set_option linter.unusedSimpArgs false
set_option maxRecDepth 100000
section
namespace Go.Eng
open Go.Proofs
noncomputable def wM (n f nt d i:Nat):Cx:=⟨Tryz.prog,cd n,100000,f,nt,KtB.kt f,some (d,i)⟩
noncomputable def sb (k:Nat) (P:Nat→Int) (j:Int):au:=[(0,.yld 1 1),(5,cQ k P false),(6,.int .i64 (Int.ofNat k)),(7,.int .i64 j)]
noncomputable def yS (s:Nat) (A:AV):AV:=.fn (.func 112) [] [.ptrT (some s) (.G [A]) 0]
noncomputable def lG (s:Nat) (A:AV):au:=[(2,.ptr 0 0 0 0),(6,yS (s+1) A)]
noncomputable def Ja (b:Nat×al):bo:=⟨false,[(0,.row (.G [.nils])),b]⟩
noncomputable def G9 (v k:Nat) (a:Nat→Int) (b:Nat×al):bo:=⟨false,[(0,.row (.G [.slc 0 2 v 0 1 k none])),b,(v,.row (.M [.arr .i64 a k]))]⟩
theorem t112 (n k:Nat) (P:Nat→Int) (G G':aa) (j x:Int):aP (bt n 112 16) (Ni (il aT n 0) 1 1 [.int .i64 x] (aH::G) (.ok (.bool true,aH::G'))) a6 a7 (part Tryz.f112 [1,0,0]) (hints (sb k P j)) (aH::G) =
 (fun (Z0:Nat×AV×Option Nat)=>Tr.ite (cP j (Int.ofNat k)) (Tr.req (dY j k) (Tr.req (bX (aD 0 j 1) k) (Tr.reqP ([AV.int .i64 (P (aD 0 j 1))]=[AV.int .i64 x]∧aH::G=aH::G) (Tr.ite (dQ true) (Tr.ok (Ex.ret,[(0,AV.yld 1 1,none),Z0,(6,AV.int .i64 (Int.ofNat k),none),(7,AV.int .i64 j,none),(14,AV.bool true,some 1)],aH::G')) (Tr.ok (Ex.normal,[(0,AV.yld 1 1,none),Z0,(6,AV.int .i64 (Int.ofNat k),none),(7,AV.int .i64 (bk .i64 j (Int.ofNat 1)),none)],aH::G')))))) (Tr.ok (Ex.exit 0,[(0,AV.yld 1 1,none),Z0,(6,AV.int .i64 (Int.ofNat k),none),(7,AV.int .i64 j,none),(8,AV.bool false,some 1)],aH::G))) (5,AV.slcT none (Row.M [aW.arr .i64 P k]) 1 k false,none):=by kernel_rfl
theorem Kl (n k:Nat) (P:Nat→Int) (G:aa) (j:Int):aP (bt n 112 16) (il aT n 0) a6 a7 (part Tryz.f112 [1,0,0]) (hints (sb k P j)) (aH::G) =
 Tr.ite (cP j (Int.ofNat k)) (Tr.req (dY j k) (Tr.req (bX (aD 0 j 1) k) Tr.bad)) (Tr.ok (Ex.exit 0,[(0,AV.yld 1 1,none),(5,AV.slcT none (Row.M [aW.arr .i64 P k]) 1 k false,none),(6,AV.int .i64 (Int.ofNat k),none),(7,AV.int .i64 j,none),(8,AV.bool false,some 1)],aH::G)):=by kernel_rfl
theorem Nx (n s k:Nat) (P:Nat→Int) (G G':aa):bK Tryz.prog (cd n) 100000 112 Tryz.f112 (KtB.kt 112) (il aT n 0) (eT a6 0 (sb k P (Int.ofNat 0)) (aH::G) (.ok (.normal,hints (sb k P (Int.ofNat k)++[(8,.bool false)]),aH::G'))) a7 [(.yld 0 1,none),(.ptrT (some s) (.G [cQ k P false]) 0,none)] G =
 (fun (Z0:au)=>Tr.reqP (Z0=Z0∧aH::G=aH::G) (Tr.ok ((AV.tup [],none),G'))) [(0,AV.yld 1 1),(5,AV.slcT none (Row.M [aW.arr .i64 P k]) 1 k false),(6,AV.int .i64 (Int.ofNat k)),(7,AV.int .i64 (Int.ofNat 0))]:=by kernel_rfl
theorem KW (n s:Nat) (G:aa):bK Tryz.prog (cd n) 100000 112 Tryz.f112 (KtB.kt 112) (il aT n 0) a6 a7 [(.yld 0 1,none),(.ptrT (some s) (.G [.nils]) 0,none)] G =
 Tr.ok ((AV.tup [],none),G):=by kernel_rfl
theorem Hf (n s k:Nat) (P:Nat→Int) (bs:List (Nat×al)) (H:aa) (x:Int):aP (wM n 110 13 2 1) (il aT n 0) a6 a7 (part Tryz.f110 [1,0,1,0,0]) (hints [(2,.ptr 2 0 0 0),(6,yS (s+3) (cQ k P false)),(7,.int .i64 x)]) (aH::aH::⟨false,bs⟩::H) =
 Tr.ok (Ex.normal,[(2,AV.ptr 2 0 0 0,none),(5,AV.int .i64 x,none)],aH::aH::{ lock:=false,bs:=bs } :: H):=by kernel_rfl
theorem Kj (n:Nat) (L:lh) (H:aa) (x:Int):aP (wM n 110 13 2 1) (il aT n 0) a6 a7 (part Tryz.f110 [1,0,1,0,1]) (hints [(2,.ptr 2 0 0 0),(5,.int .i64 x)]) (aH::aH::Ja (0,.loop L)::H) =
 Tr.req (fO 0 1 8) (Tr.req (dJ 0 0) (Tr.req (gi 1 1) (Tr.ok (Ex.normal,[],{ lock:=false,bs:=[(0,al.row (Row.I .i64 [x])),(0,al.dead)] } :: aH::{ lock:=false,bs:=[(0,al.row (Row.G [AV.slc 0 2 0 0 1 1 none])),(0,al.loop L),(0,al.row (Row.M [aW.arr .i64 (aL [x]) 1]))] } :: H)))):=by kernel_rfl
theorem Kk (n v k:Nat) (b:Nat→Int) (L:lh) (H:aa) (x:Int):aP (wM n 110 13 2 1) (il aT n 0) a6 a7 (part Tryz.f110 [1,0,1,0,1]) (hints [(2,.ptr 2 0 0 0),(5,.int .i64 x)]) (aH::aH::G9 v k b (0,.loop L)::H) =
 Tr.req (fO k 1 8) (Tr.req (dJ 0 0) (Tr.req (gi 1 1) (Tr.req (dJ v v) (Tr.req (dJ (aq 0 k) k) (Tr.ok (Ex.normal,[],{ lock:=false,bs:=[(0,al.row (Row.I .i64 [x]))] } :: aH::{ lock:=false,bs:=[(0,al.row (Row.G [AV.slc 0 2 (Nat.succ v) 0 1 (aq k 1) none])),(0,al.loop L),(Nat.succ v,al.row (Row.M [aW.arr .i64 (qN (qL b 0) k (aL [x])) (aq k 1)]))] } :: H)))))):=by kernel_rfl
theorem Nw (n s v k m:Nat) (P b:Nat→Int) (H:aa):bK Tryz.prog (cd n) 100000 110 Tryz.f110 (KtB.kt 110) (il aT n 0) a6 (La a7 (fun _=>true) (lG s (cQ k P false)) (⟨false,[(0,.row (.G [.nils]))]⟩::H) (.ok (.normal,hints (lG s (cQ k P false)),G9 v m b (0,.dead)::H))) [(.nils,none),(yS s (cQ k P false),none)] H =
 (fun (Z0:au)=>Tr.reqP (Z0=Z0∧{ lock:=false,bs:=[(0,al.row (Row.G [AV.nils]))] } :: H={ lock:=false,bs:=[(0,al.row (Row.G [AV.nils]))] } :: H) (Tr.req (dJ v v) (Tr.req (qu 0 m 0 m) (Tr.ok ((AV.slcT none (Row.M [aW.arr .i64 (qL b 0) m]) 1 m false,none),H))))) [(2,AV.ptr 0 0 0 0),(6,AV.fn (Fn.func 112) [] [AV.ptrT (some (Nat.succ s)) (Row.G [AV.slcT none (Row.M [aW.arr .i64 P k]) 1 k false]) 0])]:=by kernel_rfl
theorem KV (n s:Nat) (H:aa):bK Tryz.prog (cd n) 100000 110 Tryz.f110 (KtB.kt 110) (il aT n 0) a6 (La a7 (fun _=>true) (lG s .nils) (⟨false,[(0,.row (.G [.nils]))]⟩::H) (.ok (.normal,hints (lG s .nils),Ja (0,.dead)::H))) [(.nils,none),(yS s .nils,none)] H =
 (fun (Z0:au)=>Tr.reqP (Z0=Z0∧{ lock:=false,bs:=[(0,al.row (Row.G [AV.nils]))] } :: H={ lock:=false,bs:=[(0,al.row (Row.G [AV.nils]))] } :: H) (Tr.ok ((AV.nils,none),H))) [(2,AV.ptr 0 0 0 0),(6,AV.fn (Fn.func 112) [] [AV.ptrT (some (Nat.succ s)) (Row.G [AV.nils]) 0])]:=by kernel_rfl
theorem QU (n s k m:Nat) (P b:Nat→Int) (H:aa):bK Tryz.prog (cd n) 100000 92 Tryz.f92 (KtB.kt 92) (il (tX aT 110 [.nils,yS (s+1) (cQ k P false)] (cQ m b false)) n 0) a6 a7 [(yS s (cQ k P false),none)] H =
 (fun (Z0:List AV)=>Tr.reqP (Z0=Z0) (Tr.ok ((AV.slcT none (Row.M [aW.arr .i64 b m]) 1 m false,none),H))) [AV.nils,AV.fn (Fn.func 112) [] [AV.ptrT (some (Nat.succ s)) (Row.G [AV.slcT none (Row.M [aW.arr .i64 P k]) 1 k false]) 0]]:=by kernel_rfl
theorem NO (n s:Nat) (H:aa):bK Tryz.prog (cd n) 100000 92 Tryz.f92 (KtB.kt 92) (il (tX aT 110 [.nils,yS (s+1) .nils] .nils) n 0) a6 a7 [(yS s .nils,none)] H =
 Tr.reqP ([AV.nils,AV.fn (Fn.func 112) [] [AV.ptrT (some (Nat.succ s)) (Row.G [AV.nils]) 0]]=[AV.nils,AV.fn (Fn.func 112) [] [AV.ptrT (some (Nat.succ s)) (Row.G [AV.nils]) 0]]) (Tr.ok ((AV.nils,none),H)):=by kernel_rfl
theorem Le:∀ b,(0,b) ∈ aV (bQ Tryz.f112)→b=.loop (part Tryz.f112 [1,0,0]):=gM (by kernel_rfl)
section
variable (n s k:Nat) (P:Nat→Int)
theorem Lq (St:Nat→aa) (hk:k≤1000) (hr:∀ j,j<k→cd n (.round 1 1) [.int .i64 (P j)] (aH::St j)=some (.bool true,aH::St (j+1))) :
 cd (n+1) (.fn 112) [.yld 0 1,.ptrT (some s) (.G [cQ k P false]) 0] (St 0)=some (.tup [],St k):=by
 have hx:=iR (n:=n) (f:=112) (nt:=16) (c:=part Tryz.f112 [1,0,0]) 0 (fun j=>sb k P (j:Int)) (fun j=>aH::St j) k (sb k P (Int.ofNat k)++[(8,.bool false)],aH::St k) (by omega) (fun j hj=>?_) ?_
 · refine bw (n:=n) Tryz.func112 rfl rfl rfl (Nx n s k P (St 0) (St k)) (aB _) (bu (af _ _) Le (fun x h=>by rw[← Tr.ab h];simp only[fz.st,aN];exact hx)) (ag _ _) ?_
   exact Tr.aF ⟨rfl,rfl⟩ (Tr.ar ⟨rfl,rfl⟩)
 · refine az (t112 n k P (St j) (St (j+1)) (j:Int) (P j)) (IK (aB n) (fun x hy=>by rw[← Tr.ab hy];exact hr j hj)) (af _ _) (ag _ _) ?_
   rw[Dx,lx (by omega)]
   generalize St (j+1)=G' at *
   generalize St j=G at *
   exact wF
 · obtain ⟨x,h1,rfl⟩:=az (Q:=fun x=>x=(.exit 0,sb k P (Int.ofNat k)++[(8,.bool false)],aH::St k)) (Kl n k P (St k) (Int.ofNat k)) (aB n) (af _ _) (ag _ _) (by
    refine Tr.aj (fun hc=>?_) (fun hc=>Tr.ar rfl)
    simp (disch:=omega) only[nV,nW] at hc;omega)
   exact h1
theorem Jf (H:aa):cd (n+1) (.fn 112) [.yld 0 1,.ptrT (some s) (.G [.nils]) 0] H=some (.tup [],H):=by
 refine bw (n:=n) Tryz.func112 rfl rfl rfl (KW n s H) (aB _) (af _ _) (ag _ _) ?_
 exact wF
end
theorem yx {n d i:Nat} {args:List AV} {H H2 R:aa} {l l2:lh} {fr fr1 fr2:au} {lv:bo}
 (hg:ao H d i=(0,.loop l)) (hl:aw H d=false) (hs:l.state=.ready) (hp:jV l.nt (la (d+1) l.fr) l.params (args.map (fW 1))=some fr)
 (h1:exec (wM n l.fn l.nt (d+1) i) l.assign fr (aH::H)=some (.normal,fr1,aH::H))
 (h2:exec (wM n l.fn l.nt (d+1) i) l.body fr1 (df (aH::H) (d+1) i (0,.loop { l with state:=.busy }))=some (.normal,fr2,lv::H2)) (hg2:ao H2 d i=(0,.loop l2)) (hR:R=df H2 d i (0,.loop { l2 with state:=.ready,pending:=none })) :
 cd (n+1) (.round d i) args H=some (.bool true,R):=by
 rw[hR]
 exact Ej (P:=Tryz.prog) (ora:=nv) (KT:=KtB.kt) (fu:=100000) (e:=.normal) hg hl hs hp h1 (by rw[show ao (aH::H) (d+1) i=ao H d i from rfl];exact hg) hs h2 hg2
theorem Db {n f nt d i:Nat} {c:Code} {callR:bz} {bl:gz} {rg:rz} {fr:au} {H:aa} {T:Tr fz} (e:aP (wM n f nt d i) callR bl rg c (hints fr) H=T) (hC:callR.Ok (cd n)) (hB:bl.Ok (wM n f nt d i) c) (hR:rg.Ok (wM n f nt d i) c) {y:Ex×au×aa} (h:T.all fun x=>x.st=y):exec (wM n f nt d i) c fr H=some y:=by
 obtain ⟨x,h1,rfl⟩:=h
 have:=lC (cx:=wM n f nt d i) hC c hB hR (hints fr) H x (by rw[e];exact h1)
 rw[aN] at this;exact this
theorem Da {n f nt d i:Nat} {c:Code} {callR:bz} {bl:gz} {rg:rz} {fr:au} {H:aa} {T:Tr fz} {Q:Ex×au×aa→Prop} (e:aP (wM n f nt d i) callR bl rg c (hints fr) H=T) (hC:callR.Ok (cd n)) (hB:bl.Ok (wM n f nt d i) c) (hR:rg.Ok (wM n f nt d i) c) (h:T.all fun x=>Q x.st):∃ y,exec (wM n f nt d i) c fr H=some y∧Q y:=by
 obtain ⟨x,h1,h2⟩:=h
 have:=lC (cx:=wM n f nt d i) hC c hB hR (hints fr) H x (by rw[e];exact h1)
 rw[aN] at this;exact ⟨_,this,h2⟩
noncomputable def pL:Code:=part Tryz.f110 [1,0,1,0,0]
noncomputable def vK:Code:=part Tryz.f110 [1,0,1,0,1]
theorem Kb:eA (bQ Tryz.f110)=[(.tmp 6,#[7],pL,vK)]:=by kernel_rfl
noncomputable def dq (s:Nat) (A:AV):lh:={ state:=.ready,pending:=none,fn:=110,nt:=13,fr:=lG s A,params:=[7],assign:=pL,body:=vK }
noncomputable def JT (b:Nat×al):List Int→bo
 | []=>Ja b
 | a::r=>G9 r.length (r.length+1) (aL (a::r)) b
theorem Kc (n s k:Nat) (P:Nat→Int) (L:List Int) (H:aa) (x:Int) (hL:L.length≤1000) :
 cd (n+1) (.round 1 1) [.int .i64 x] (aH::JT (0,.loop (dq s (cQ k P false))) L::H)=some (.bool true,aH::JT (0,.loop (dq s (cQ k P false))) (L++[x])::H):=by
 cases L with
 | nil =>
   have h1:exec (wM n 110 13 2 1) pL [(2,.ptr 2 0 0 0),(6,yS (s+3) (cQ k P false)),(7,.int .i64 x)] (aH::aH::Ja (0,.loop (dq s (cQ k P false)))::H)=some (.normal,[(2,.ptr 2 0 0 0),(5,.int .i64 x)],aH::aH::Ja (0,.loop (dq s (cQ k P false)))::H) :=
    Db (Hf n s k P _ H x) (aB n) (af _ _) (ag _ _) (Tr.ar rfl)
   obtain ⟨y,h2,h3⟩:=Da (Q:=fun y=>y=(.normal,[],⟨false,[(0,.row (.I .i64 [x])),(0,.dead)]⟩::aH::G9 0 1 (aL [x]) (0,.loop { dq s (cQ k P false) with state:=.busy })::H)) (Kj n { dq s (cQ k P false) with state:=.busy } H x) (aB n) (af _ _) (ag _ _) (by
    generalize dq s (cQ k P false)=L at *
    exact wF)
   subst h3
   exact yx (l:=dq s (cQ k P false)) (l2:={ dq s (cQ k P false) with state:=.busy }) rfl rfl rfl rfl h1 h2 rfl rfl
 | cons a r =>
   simp only[List.length_cons] at hL
   have h1:exec (wM n 110 13 2 1) pL [(2,.ptr 2 0 0 0),(6,yS (s+3) (cQ k P false)),(7,.int .i64 x)] (aH::aH::G9 r.length (r.length+1) (aL (a::r)) (0,.loop (dq s (cQ k P false)))::H)=some (.normal,[(2,.ptr 2 0 0 0),(5,.int .i64 x)],aH::aH::G9 r.length (r.length+1) (aL (a::r)) (0,.loop (dq s (cQ k P false)))::H) :=
    Db (Hf n s k P _ H x) (aB n) (af _ _) (ag _ _) (Tr.ar rfl)
   have e1:=mi (a::r) x
   simp only[List.length_cons] at e1
   have e3:aq (r.length+1) 1=r.length+1+1:=by rw[ba]
   obtain ⟨y,h2,h3⟩:=Da (Q:=fun y=>y=(.normal,[],⟨false,[(0,.row (.I .i64 [x]))]⟩::aH::G9 (r.length+1) (r.length+1+1) (aL (a::r++[x])) (0,.loop { dq s (cQ k P false) with state:=.busy })::H)) (Kk n r.length (r.length+1) (aL (a::r)) { dq s (cQ k P false) with state:=.busy } H x) (aB n) (af _ _) (ag _ _) (by
    rw[e1,e3]
    generalize dq s (cQ k P false)=L at *
    generalize aL (a::r++[x])=Y at *
    exact wF)
   subst h3
   have e4:(r++[x]).length=r.length+1:=by simp
   refine yx (l:=dq s (cQ k P false)) (l2:={ dq s (cQ k P false) with state:=.busy }) rfl rfl rfl rfl h1 h2 rfl ?_
   show aH::G9 (r++[x]).length ((r++[x]).length+1) (aL (a::(r++[x]))) _::H=_
   rw[e4];rfl
def pZ (P:Nat→Int) (k:Nat):List Int:=(List.range k).map P
theorem A6 (P:Nat→Int) (k:Nat):pZ P (k+1)=pZ P k++[P k]:=by unfold pZ;rw[List.range_succ,List.map_append];rfl
theorem kL (P:Nat→Int) (k:Nat):(pZ P k).length=k:=by simp[pZ]
theorem Lp (n s k:Nat) (P:Nat→Int) (H:aa) (hk:k≤1000):cd (n+3) (.fn 110) [.nils,yS s (if k=0 then .nils else cQ k P false)] H=some (dA (pZ P k),H):=by
 cases k with
 | zero =>
   rw[if_pos rfl]
   have hx:exec (bt (n+2) 110 13) (.rangeFunc (.tmp 6) #[7] pL vK) (lG s .nils) (⟨false,[(0,.row (.G [.nils]))]⟩::H)=some (.normal,lG s .nils,Ja (0,.dead)::H) :=
    yo (cx:=bt (n+2) 110 13) (l:=dq s .nils) (f:=.tmp 6) (ps:=#[7]) (fr:=lG s .nils) (H:=⟨false,[(0,.row (.G [.nils]))]⟩::H) (g:=112) (a:=[]) (b:=[.ptrT (some (s+1)) (.G [.nils]) 0]) rfl rfl rfl (Jf (n+1) (s+1) _) rfl rfl rfl
   refine bw (n:=n+2) Tryz.func110 rfl rfl rfl (KV (n+2) s H) (aB _) (af _ _) (Eh (ag _ _) (fun f ps a b _ hm x hx2=>by
    rw[Kb] at hm
    simp only[List.mem_cons,Prod.mk.injEq,List.not_mem_nil,or_false] at hm
    obtain ⟨rfl,rfl,rfl,rfl⟩:=hm
    rw[← Tr.ab hx2];simp only[fz.st,aN];exact hx)) ?_
   exact wF
 | succ k =>
   rw[if_neg (by omega)]
   have hx:exec (bt (n+2) 110 13) (.rangeFunc (.tmp 6) #[7] pL vK) (lG s (cQ (k+1) P false)) (⟨false,[(0,.row (.G [.nils]))]⟩::H)=some (.normal,lG s (cQ (k+1) P false),b9 (JT (0,.loop (dq s (cQ (k+1) P false))) (pZ P (k+1))::H) 0 1) :=
    yo (cx:=bt (n+2) 110 13) (l:=dq s (cQ (k+1) P false)) (f:=.tmp 6) (ps:=#[7]) (fr:=lG s (cQ (k+1) P false)) (H:=⟨false,[(0,.row (.G [.nils]))]⟩::H) (g:=112) (a:=[]) (b:=[.ptrT (some (s+1)) (.G [cQ (k+1) P false]) 0]) rfl rfl rfl
     (Lq (n+1) (s+1) (k+1) P (fun j=>JT (0,.loop (dq s (cQ (k+1) P false))) (pZ P j)::H) hk (fun j hj=>by
       show _=some (_,aH::JT _ (pZ P (j+1))::H)
       rw[A6]
       exact Kc n s (k+1) P (pZ P j) H (P j) (by rw[kL];omega))) (by
       cases e:pZ P (k+1) with
       | nil=>have:=kL P (k+1);rw[e] at this;cases this
       | cons a r=>rfl) rfl rfl
   have hl:=kL P (k+1)
   cases e:pZ P (k+1) with
   | nil=>rw[e] at hl;cases hl
   | cons a r =>
     rw[e] at hx
     refine bw (n:=n+2) Tryz.func110 rfl rfl rfl (Nw (n+2) s r.length (k+1) (r.length+1) P (aL (a::r)) H) (aB _) (af _ _) (Eh (ag _ _) (fun f ps a b _ hm x hx2=>by
      rw[Kb] at hm
      simp only[List.mem_cons,Prod.mk.injEq,List.not_mem_nil,or_false] at hm
      obtain ⟨rfl,rfl,rfl,rfl⟩:=hm
      rw[← Tr.ab hx2];simp only[fz.st,aN];exact hx)) ?_
     rw[gH]
     exact wF
theorem OG (n s k:Nat) (P:Nat→Int) (H:aa) (hk:k≤1000):cd (n+4) (.fn 92) [yS s (if k=0 then .nils else cQ k P false)] H=some (dA (pZ P k),H):=by
 have h:=fun q H=>Lp (n+q) (s+1) k P H hk
 cases k with
 | zero =>
   rw[if_pos rfl] at h ⊢
   refine bw (n:=n+3) Tryz.func92 rfl rfl rfl (NO (n+3) s H) (iA _ (n+3) 0 (fun q=>dz (bp _) (fun H=>by rw[show n+3+q=n+q+3 by omega];exact h q H))) (af _ _) (ag _ _) ?_
   exact wF
 | succ k =>
   rw[if_neg (by omega)] at h ⊢
   have hl:=kL P (k+1)
   cases e:pZ P (k+1) with
   | nil=>rw[e] at hl;cases hl
   | cons a r =>
     rw[e] at h
     refine bw (n:=n+3) Tryz.func92 rfl rfl rfl (QU (n+3) s (k+1) (r.length+1) P (aL (a::r)) H) (iA _ (n+3) 0 (fun q=>dz (bp _) (fun H=>by rw[show n+3+q=n+q+3 by omega];exact h q H))) (af _ _) (ag _ _) ?_
     exact wF
end Go.Eng
end
section
namespace Go.Eng
open Go.Proofs
noncomputable def dp (h:List Int→Bool) (g:List Int→Int) (c:Nat) (h2:List Int→Bool) (g2:List Int→Int) (c2:Nat) (bs:List (Nat×al)):bo:=⟨false,(0,.fmap (.str 2) h g c)::(0,.fmap (.str 2) h2 g2 c2)::bs⟩
noncomputable def sc (s l m:Nat) (y P:Nat→Int) (K j:Int):au:=[(0,gY (s+1) l y),(1,.int .i64 K),(6,cQ m P false),(7,.map 0 0),(8,.map 0 1),(32,.int .i64 (Int.ofNat m)),(33,.int .i64 j)]
noncomputable def ot (s l m:Nat) (y P:Nat→Int) (K j f:Int):au:=[(0,gY (s+1) l y),(1,.int .i64 K),(6,cQ m P false),(7,.map 0 0),(8,.map 0 1),(9,.int .i64 j),(10,.int .i64 f),(32,.int .i64 (Int.ofNat m)),(33,.int .i64 j)]
noncomputable def ou (s l m:Nat) (y P:Nat→Int) (K j f n:Int):au:=[(0,gY (s+1) l y),(1,.int .i64 K),(6,cQ m P false),(7,.map 0 0),(8,.map 0 1),(9,.int .i64 j),(10,.int .i64 f),(32,.int .i64 (Int.ofNat m)),(33,.int .i64 j),(41,.int .i64 K),(42,.int .i64 n)]
noncomputable def LI (Q:Int→Int→Prop) (B A:AV) (a:Int→Int→Int):List AV→Option (Prop×AV)
 | [B',A',.int .i64 f,.int .i64 p]=>some ([B',A']=[B,A]∧Q f p,.int .i64 (a f p))
 | _=>none
theorem J0 (n s l:Nat) (y:Nat→Int) (K:Int) (H:aa):aP (bt n 79 156) (il aT n 0) a6 a7 (part Tryz.f79 [0]) (hints [(0,gY (s+1) l y),(1,.int .i64 K)]) (aH::H) =
 Tr.ok (Ex.normal,[(0,AV.ptrT (some (Nat.succ s)) (Row.G [aO 7 l y]) 0,none),(1,AV.int .i64 K,none)],aH::H):=by kernel_rfl
theorem Ns (n s l m:Nat) (y P:Nat→Int) (K j:Int) (h:List Int→Bool) (g:List Int→Int) (c:Nat) (h2:List Int→Bool) (g2:List Int→Int) (c2:Nat) (h':List Int→Bool) (g':List Int→Int) (c':Nat) (h2':List Int→Bool) (g2':List Int→Int) (c2':Nat) (H:aa):aP (bt n 79 156) (il aT n 0) (eT a6 2 (ot s l m y P K j (-1)) (dp h g c h2 g2 c2 []::H) (.ok (.normal,hints (ot s l m y P K j j++[(38,.bool false)]),dp h' g' c' h2' g2' c2' []::H))) a7 (part Tryz.f79 [1,1,1,1,0,1,0,0]) (hints (sc s l m y P K j)) (dp h g c h2 g2 c2 []::H) =
 (fun (Z0:au)=>((fun (Z1:bo)=>Tr.ite (cP j (Int.ofNat m)) (Tr.reqP (Z0=Z0∧Z1::H=Z1::H) (Tr.ok (Ex.normal,[(0,AV.ptrT (some (Nat.succ s)) (Row.G [aO 7 l y]) 0,none),(1,AV.int .i64 K,none),(6,AV.slcT none (Row.M [aW.arr .i64 P m]) 1 m false,none),(7,AV.map 0 0,none),(8,AV.map 0 1,none),(32,AV.int .i64 (Int.ofNat m),none),(33,AV.int .i64 (bk .i64 j (Int.ofNat 1)),none)],{ lock:=false,bs:=[(0,al.fmap (KK.str 2) h' g' c'),(0,al.fmap (KK.str 2) h2' g2' c2')] } :: H))) (Tr.ok (Ex.exit 0,[(0,AV.ptrT (some (Nat.succ s)) (Row.G [aO 7 l y]) 0,none),(1,AV.int .i64 K,none),(6,AV.slcT none (Row.M [aW.arr .i64 P m]) 1 m false,none),(7,AV.map 0 0,none),(8,AV.map 0 1,none),(32,AV.int .i64 (Int.ofNat m),none),(33,AV.int .i64 j,none),(34,AV.bool false,some 1)],Z1::H))) { lock:=false,bs:=[(0,al.fmap (KK.str 2) h g c),(0,al.fmap (KK.str 2) h2 g2 c2)] })) [(0,AV.ptrT (some (Nat.succ s)) (Row.G [aO 7 l y]) 0),(1,AV.int .i64 K),(6,AV.slcT none (Row.M [aW.arr .i64 P m]) 1 m false),(7,AV.map 0 0),(8,AV.map 0 1),(9,AV.int .i64 j),(10,AV.int .i64 (Int.negSucc 0)),(32,AV.int .i64 (Int.ofNat m)),(33,AV.int .i64 j)]:=by kernel_rfl
theorem Nt (n s l m:Nat) (y P:Nat→Int) (K j f:Int) (h:List Int→Bool) (g:List Int→Int) (c:Nat) (h2:List Int→Bool) (g2:List Int→Int) (c2:Nat) (h':List Int→Bool) (g':List Int→Int) (c':Nat) (h2':List Int→Bool) (g2':List Int→Int) (c2':Nat) (H:aa):aP (bt n 79 156) (il aT n 0) (eT a6 4 (ou s l m y P K j f (Int.ofNat 0)) (dp h g c h2 g2 c2 []::H) (.ok (.normal,hints (ou s l m y P K j f K++[(43,.bool false)]),dp h' g' c' h2' g2' c2' []::H))) a7 (part Tryz.f79 [1,1,1,1,0,1,0,0,1,1,0,0,1,1,0,0]) (hints (ot s l m y P K j f)) (dp h g c h2 g2 c2 []::H) =
 (fun (Z0:au)=>((fun (Z1:bo)=>Tr.ite (cP f j) (Tr.reqP (Z0=Z0∧Z1::H=Z1::H) (Tr.ok (Ex.normal,[(0,AV.ptrT (some (Nat.succ s)) (Row.G [aO 7 l y]) 0,none),(1,AV.int .i64 K,none),(6,AV.slcT none (Row.M [aW.arr .i64 P m]) 1 m false,none),(7,AV.map 0 0,none),(8,AV.map 0 1,none),(9,AV.int .i64 j,none),(10,AV.int .i64 (bk .i64 f (Int.ofNat 1)),none),(32,AV.int .i64 (Int.ofNat m),none),(33,AV.int .i64 j,none)],{ lock:=false,bs:=[(0,al.fmap (KK.str 2) h' g' c'),(0,al.fmap (KK.str 2) h2' g2' c2')] } :: H))) (Tr.ok (Ex.exit 2,[(0,AV.ptrT (some (Nat.succ s)) (Row.G [aO 7 l y]) 0,none),(1,AV.int .i64 K,none),(6,AV.slcT none (Row.M [aW.arr .i64 P m]) 1 m false,none),(7,AV.map 0 0,none),(8,AV.map 0 1,none),(9,AV.int .i64 j,none),(10,AV.int .i64 f,none),(32,AV.int .i64 (Int.ofNat m),none),(33,AV.int .i64 j,none),(38,AV.bool false,some 1)],Z1::H))) { lock:=false,bs:=[(0,al.fmap (KK.str 2) h g c),(0,al.fmap (KK.str 2) h2 g2 c2)] })) [(0,AV.ptrT (some (Nat.succ s)) (Row.G [aO 7 l y]) 0),(1,AV.int .i64 K),(6,AV.slcT none (Row.M [aW.arr .i64 P m]) 1 m false),(7,AV.map 0 0),(8,AV.map 0 1),(9,AV.int .i64 j),(10,AV.int .i64 f),(32,AV.int .i64 (Int.ofNat m)),(33,AV.int .i64 j),(41,AV.int .i64 K),(42,AV.int .i64 (Int.ofNat 0))]:=by kernel_rfl
theorem KA (n s l m:Nat) (y P:Nat→Int) (a:Int→Int→Int) (Q:Int→Int→Prop) (K j f x:Int) (h:List Int→Bool) (g:List Int→Int) (c:Nat) (h2:List Int→Bool) (g2:List Int→Int) (c2:Nat) (H:aa):aP (bt n 79 156) (il (ly aT 93 (LI Q (gY (s+1) l y) (cQ m P false) a)) n 0) a6 a7 (part Tryz.f79 [1,1,1,1,0,1,0,0,1,1,0,0,1,1,0,0,1,0,0,1,0,0]) (hints (ou s l m y P K j f x)) (dp h g c h2 g2 c2 []::H) =
 (fun (Z0:aK)=>((fun (Z1:bo)=>((fun (Z2:List AV)=>((fun (Z3:bo)=>Tr.ite (cP x K) (Tr.ite (dQ (h [f,x])) (Tr.ok (Ex.normal,Z0,Z3::H)) (Tr.reqP (Z2=Z2∧Q f j) (Tr.ite (dQ (h [j,bk .i64 x (Int.ofNat 1)])) (Tr.req (fB (gi 0 0) (gi 0 1)) (Tr.req (fB (gi 0 0) (gi 0 1)) (Tr.ok (Ex.normal,Z0,Z1::H)))) (Tr.ite (cP (g [j,bk .i64 x (Int.ofNat 1)]) (bk .i64 (g [f,x]) (a f j))) (Tr.req (fB (gi 0 0) (gi 0 1)) (Tr.req (fB (gi 0 0) (gi 0 1)) (Tr.ok (Ex.normal,Z0,Z1::H)))) (Tr.ok (Ex.normal,Z0,{ lock:=false,bs:=[(0,al.fmap (KK.str 2) h g c),(0,al.fmap (KK.str 2) h2 g2 c2),(0,al.row (Row.I .i64 [j,bk .i64 x (Int.ofNat 1)]))] } :: H)))))) (Tr.ok (Ex.exit 4,[(0,AV.ptrT (some (Nat.succ s)) (Row.G [aO 7 l y]) 0,none),(1,AV.int .i64 K,none),(6,AV.slcT none (Row.M [aW.arr .i64 P m]) 1 m false,none),(7,AV.map 0 0,none),(8,AV.map 0 1,none),(9,AV.int .i64 j,none),(10,AV.int .i64 f,none),(32,AV.int .i64 (Int.ofNat m),none),(33,AV.int .i64 j,none),(41,AV.int .i64 K,none),(42,AV.int .i64 x,none),(43,AV.bool false,some 1)],Z3::H))) { lock:=false,bs:=[(0,al.fmap (KK.str 2) h g c),(0,al.fmap (KK.str 2) h2 g2 c2)] })) [AV.ptrT (some (Nat.succ s)) (Row.G [aO 7 l y]) 0,AV.slcT none (Row.M [aW.arr .i64 P m]) 1 m false])) { lock:=false,bs:=[(0,al.fmap (KK.str 2) (l7 h [j,bk .i64 x (Int.ofNat 1)] true) (mR g [j,bk .i64 x (Int.ofNat 1)] (bk .i64 (g [f,x]) (a f j))) (qd (h [j,bk .i64 x (Int.ofNat 1)]) c)),(0,al.fmap (KK.str 2) (l7 (l7 h2 [j,bk .i64 x (Int.ofNat 1)] false) [j,bk .i64 x (Int.ofNat 1)] true) (mR (mR g2 [j,bk .i64 x (Int.ofNat 1)] (Int.ofNat 0)) [j,bk .i64 x (Int.ofNat 1)] f) (qd (l7 h2 [j,bk .i64 x (Int.ofNat 1)] false [j,bk .i64 x (Int.ofNat 1)]) (Aq (h2 [j,bk .i64 x (Int.ofNat 1)]) c2))),(0,al.row (Row.I .i64 [j,bk .i64 x (Int.ofNat 1)]))] })) [(0,AV.ptrT (some (Nat.succ s)) (Row.G [aO 7 l y]) 0,none),(1,AV.int .i64 K,none),(6,AV.slcT none (Row.M [aW.arr .i64 P m]) 1 m false,none),(7,AV.map 0 0,none),(8,AV.map 0 1,none),(9,AV.int .i64 j,none),(10,AV.int .i64 f,none),(32,AV.int .i64 (Int.ofNat m),none),(33,AV.int .i64 j,none),(41,AV.int .i64 K,none),(42,AV.int .i64 (bk .i64 x (Int.ofNat 1)),none)]:=by kernel_rfl
theorem Ll:∀ b,(4,b) ∈ aV (part Tryz.f79 [1,1,1,1,0,1,0,0,1,1,0,0,1,1,0,0])→b=.loop (part Tryz.f79 [1,1,1,1,0,1,0,0,1,1,0,0,1,1,0,0,1,0,0,1,0,0]):=gM (by kernel_rfl)
theorem Lk:∀ b,(2,b) ∈ aV (part Tryz.f79 [1,1,1,1,0,1,0,0])→b=.loop (part Tryz.f79 [1,1,1,1,0,1,0,0,1,1,0,0,1,1,0,0]):=gM (by kernel_rfl)
theorem Lm:∀ b,(0,b) ∈ aV (part Tryz.f79 [1,1,1,1,0])→b=.loop (part Tryz.f79 [1,1,1,1,0,1,0,0]):=gM (by kernel_rfl)
noncomputable def jz (s:MS) (bs:List (Nat×al)):bo:=dp s.h s.g s.c s.h2 s.g2 s.c2 bs
def K8 (m:Nat) (f p:Int):Prop:=(-1≤f∧f<m)∧0≤p∧p<m
theorem Dr {n s l m:Nat} {z P:Nat→Int} {t:nI} (h:bY l z=0) (hm:m≤1000) (ht:t.Ok (cd (n+3))):(ly t 93 (LI (K8 m) (gY s l (oY z l)) (cQ m P false) (dX l z P))).Ok (cd (n+3)):=by
 refine fD ht (fun args p v hg hp H=>?_)
 unfold LI at hg
 split at hg
 · simp only[nP] at hg
   obtain ⟨rfl,rfl⟩:=hg
   obtain ⟨e,h1,h2⟩:=hp
   simp only[List.cons.injEq,and_true] at e
   obtain ⟨rfl,rfl⟩:=e
   exact OH n s l m z P H _ _ h hm h1 h2
 · cases hg
section
variable (n s l m:Nat) (z P:Nat→Int) (H:aa)
theorem Ae (h:bY l z=0) (f p:Int):0≤dX l z P f p∧dX l z P f p≤1400000:=by
 obtain ⟨hl,hz⟩:=cM h
 have hw:∀ i,i<l→0≤eB z i∧eB z i≤100000:=fun i hi=>by
  have:=hz i hi
  unfold eB;omega
 obtain ⟨h1,h2⟩:=CH (N:=l) (lo:=c5 z) (hi:=cB z) (P:=P) (fun i hi=>(hw i hi).1) f p
 have h3:∀ j,j≤l→qM (eB z) j≤(j:Int)*100000:=by
  intro j
  induction j with
  | zero=>intro _;show (0:Int)≤_;omega
  | succ j ih =>
    intro hj
    have:=ih (by omega)
    have:=hw j (by omega)
    show qM (eB z) j+eB z j≤_
    omega
 have:=h3 l (Nat.le_refl _)
 unfold dX
 omega
theorem MN (K:Nat) (j f:Int) (S:MS) (h:bY l z=0) (hK:K≤15) (hm:m≤14) (hf:-1≤f∧f<j) (hj:0≤j∧j<m) (hB:EP 1400000 S):exec (bt (n+3) 79 156) (.block 4 (.loop (part Tryz.f79 [1,1,1,1,0,1,0,0,1,1,0,0,1,1,0,0,1,0,0,1,0,0]))) (ou s l m (oY z l) P K j f (Int.ofNat 0)) (jz S []::H)=some (.normal,ou s l m (oY z l) P K j f K++[(43,.bool false)],jz (gy (dX l z P) j f K S) []::H):=by
 refine iR 4 (fun i=>ou s l m (oY z l) P K j f (i:Nat)) (fun i=>jz (gy (dX l z P) j f i S) []::H) K (ou s l m (oY z l) P K j f K++[(43,.bool false)],jz (gy (dX l z P) j f K S) []::H) (by omega) (fun i hi=>?_) ?_
 · have hB2:=HD (a:=dX l z P) (W:=1400000) (fun f p=>Ae l z P h f p) (p:=j) (f:=f) hB i
   have e1:bk .i64 (i:Int) (Int.ofNat 1)=((i+1:Nat):Int):=lx (by omega)
   have hst:gy (dX l z P) j f (i+1) S=l9 (dX l z P) j f i (gy (dX l z P) j f i S):=rfl
   have ha:=Ae l z P h f j
   have hQ:K8 m f j:=⟨⟨hf.1,by omega⟩,hj⟩
   generalize gy (dX l z P) j f (i+1) S=S2 at *
   generalize gy (dX l z P) j f i S=S1 at *
   refine az (KA (n+3) s l m (oY z l) P (dX l z P) (K8 m) K j f (i:Nat) S1.h S1.g S1.c S1.h2 S1.g2 S1.c2 H) (iA _ (n+3) 0 (fun q=>?_)) (af _ _) (ag _ _) ?_
   · rw[show n+3+q=n+q+3 by omega]
     exact Dr h (by omega) (bp _)
   · rw[e1]
     have hjj:((i+1:Nat):Int)=(i:Int)+1:=rfl
     rw[hjj]
     show Tr.all _ (fun x=>_∧tidy _ _ _=(ou s l m (oY z l) P K j f ((i:Int)+1),jz S2 []::H))
     cases c1:S1.h [f,(i:Int)] with
     | false =>
       have e2:S2=S1:=by rw[hst];unfold l9;rw[if_neg (by rw[c1];decide)]
       subst e2
       exact wF
     | true =>
       obtain ⟨b1,b2,b3⟩:=hB2 f i c1
       have ea:bk .i64 (S1.g [f,(i:Int)]) (dX l z P f j)=S1.g [f,(i:Int)]+dX l z P f j:=by rw[dB];exact dv (by omega) (by omega)
       rw[ea]
       cases c2:He (dX l z P) j f i S1 with
       | false =>
         have e2:S2=S1:=by rw[hst];unfold l9;rw[if_pos c1,if_neg (by rw[c2];decide)]
         subst e2
         unfold He at c2
         rw[Bool.or_eq_false_iff,Bool.not_eq_false',decide_eq_false_iff_not] at c2
         obtain ⟨c3,c4⟩:=c2
         rw[c3]
         generalize dX l z P f j=A at *
         exact wF
       | true =>
         have e2:S2=⟨dh S1.h [j,(i:Int)+1] true,eZ S1.g [j,(i:Int)+1] (S1.g [f,(i:Int)]+dX l z P f j),nU (S1.h [j,(i:Int)+1]) S1.c,dh (dh S1.h2 [j,(i:Int)+1] false) [j,(i:Int)+1] true,eZ (eZ S1.g2 [j,(i:Int)+1] 0) [j,(i:Int)+1] f,nU (dh S1.h2 [j,(i:Int)+1] false [j,(i:Int)+1]) (wK (S1.h2 [j,(i:Int)+1]) S1.c2)⟩:=by
          rw[hst];unfold l9;rw[if_pos c1,if_pos c2]
         subst e2
         unfold He at c2
         rw[Bool.or_eq_true,Bool.not_eq_true',decide_eq_true_eq] at c2
         simp only[oT,oU,rS,wL]
         generalize dX l z P f j=A at *
         cases c3:S1.h [j,(i:Int)+1] with
         | false =>
           exact wF
         | true =>
           have c4:=c2.resolve_left (by rw[c3];decide)
           exact wF
 · obtain ⟨x,h1,rfl⟩:=az (Q:=fun x=>x=(.exit 4,ou s l m (oY z l) P K j f K++[(43,.bool false)],jz (gy (dX l z P) j f K S) []::H)) (KA (n+3) s l m (oY z l) P (dX l z P) (K8 m) K j f K (gy (dX l z P) j f K S).h (gy (dX l z P) j f K S).g (gy (dX l z P) j f K S).c (gy (dX l z P) j f K S).h2 (gy (dX l z P) j f K S).g2 (gy (dX l z P) j f K S).c2 H) (iA _ (n+3) 0 (fun q=>by rw[show n+3+q=n+q+3 by omega];exact Dr h (by omega) (bp _))) (af _ _) (ag _ _) (by
    refine Tr.aj (fun hc=>?_) (fun hc=>Tr.ar rfl)
    simp (disch:=omega) only[nV,nW] at hc;omega)
   exact h1
end
end Go.Eng
end
section
namespace Go.Eng
open Go.Proofs
theorem Kz (n s l m:Nat) (y P:Nat→Int) (K j f:Int) (h:List Int→Bool) (g:List Int→Int) (c:Nat) (h2:List Int→Bool) (g2:List Int→Int) (c2:Nat) (H:aa):aP (bt n 79 156) (il aT n 0) (mT a6 4) a7 (part Tryz.f79 [1,1,1,1,0,1,0,0,1,1,0,0,1,1,0,0]) (hints (ot s l m y P K j f)) (dp h g c h2 g2 c2 []::H) =
 Tr.ite (cP f j) Tr.bad (Tr.ok (Ex.exit 2,[(0,AV.ptrT (some (Nat.succ s)) (Row.G [aO 7 l y]) 0,none),(1,AV.int .i64 K,none),(6,AV.slcT none (Row.M [aW.arr .i64 P m]) 1 m false,none),(7,AV.map 0 0,none),(8,AV.map 0 1,none),(9,AV.int .i64 j,none),(10,AV.int .i64 f,none),(32,AV.int .i64 (Int.ofNat m),none),(33,AV.int .i64 j,none),(38,AV.bool false,some 1)],{ lock:=false,bs:=[(0,al.fmap (KK.str 2) h g c),(0,al.fmap (KK.str 2) h2 g2 c2)] } :: H)):=by kernel_rfl
theorem Ky (n s l m:Nat) (y P:Nat→Int) (K j:Int) (h:List Int→Bool) (g:List Int→Int) (c:Nat) (h2:List Int→Bool) (g2:List Int→Int) (c2:Nat) (H:aa):aP (bt n 79 156) (il aT n 0) (mT a6 2) a7 (part Tryz.f79 [1,1,1,1,0,1,0,0]) (hints (sc s l m y P K j)) (dp h g c h2 g2 c2 []::H) =
 Tr.ite (cP j (Int.ofNat m)) Tr.bad (Tr.ok (Ex.exit 0,[(0,AV.ptrT (some (Nat.succ s)) (Row.G [aO 7 l y]) 0,none),(1,AV.int .i64 K,none),(6,AV.slcT none (Row.M [aW.arr .i64 P m]) 1 m false,none),(7,AV.map 0 0,none),(8,AV.map 0 1,none),(32,AV.int .i64 (Int.ofNat m),none),(33,AV.int .i64 j,none),(34,AV.bool false,some 1)],{ lock:=false,bs:=[(0,al.fmap (KK.str 2) h g c),(0,al.fmap (KK.str 2) h2 g2 c2)] } :: H)):=by kernel_rfl
section
variable (n s l m:Nat) (z P:Nat→Int) (H:aa)
theorem MM (K p:Nat) (S:MS) (h:bY l z=0) (hK:K≤15) (hm:m≤14) (hj:p<m) (hB:EP 1400000 S):exec (bt (n+3) 79 156) (.block 2 (.loop (part Tryz.f79 [1,1,1,1,0,1,0,0,1,1,0,0,1,1,0,0]))) (ot s l m (oY z l) P K p (-1)) (jz S []::H)=some (.normal,ot s l m (oY z l) P K p p++[(38,.bool false)],jz (kZ (dX l z P) K p (p+1) S) []::H):=by
 refine iR 2 (fun i=>ot s l m (oY z l) P K p ((i:Int)-1)) (fun i=>jz (kZ (dX l z P) K p i S) []::H) (p+1) (ot s l m (oY z l) P K p p++[(38,.bool false)],jz (kZ (dX l z P) K p (p+1) S) []::H) (by omega) (fun i hi=>?_) ?_
 · have hB2:=Hz (a:=dX l z P) (W:=1400000) (fun f p=>Ae l z P h f p) (K:=K) (p:=p) hB i
   have hst:kZ (dX l z P) K p (i+1) S=gy (dX l z P) p ((i:Int)-1) K (kZ (dX l z P) K p i S):=rfl
   have e1:bk .i64 ((i:Int)-1) (Int.ofNat 1)=((i+1:Nat):Int)-1:=by rw[dB,show Int.ofNat 1=1 from rfl,dv (by omega) (by omega)];omega
   rw[hst]
   have hx:=MN n s l m z P H K p ((i:Int)-1) (kZ (dX l z P) K p i S) h hK hm (by omega) (by omega) hB2
   generalize gy (dX l z P) p ((i:Int)-1) K (kZ (dX l z P) K p i S)=S2 at *
   generalize kZ (dX l z P) K p i S=S1 at *
   refine az (Nt (n+3) s l m (oY z l) P K p ((i:Int)-1) S1.h S1.g S1.c S1.h2 S1.g2 S1.c2 S2.h S2.g S2.c S2.h2 S2.g2 S2.c2 H) (aB _) (bu (af _ _) Ll (fun x h=>by rw[← Tr.ab h];simp only[fz.st,aN];exact hx)) (ag _ _) ?_
   rw[e1]
   exact wF
 · have e:((p+1:Nat):Int)-1=p:=by omega
   rw[e]
   generalize kZ (dX l z P) K p (p+1) S=S2 at *
   obtain ⟨x,h1,rfl⟩:=az (Q:=fun x=>x=(.exit 2,ot s l m (oY z l) P K p p++[(38,.bool false)],jz S2 []::H)) (Kz (n+3) s l m (oY z l) P K p p S2.h S2.g S2.c S2.h2 S2.g2 S2.c2 H) (aB _) (fP (af _ _) 4) (ag _ _) (by
    refine Tr.aj (fun hc=>?_) (fun hc=>Tr.ar rfl)
    simp (disch:=omega) only[nV,nW] at hc;omega)
   exact h1
theorem MO (K:Nat) (h:bY l z=0) (hK:K≤15) (hm:m≤14):exec (bt (n+3) 79 156) (.block 0 (.loop (part Tryz.f79 [1,1,1,1,0,1,0,0]))) (sc s l m (oY z l) P K (Int.ofNat 0)) (jz cF []::H)=some (.normal,sc s l m (oY z l) P K (Int.ofNat m)++[(34,.bool false)],jz (fy (dX l z P) K m cF) []::H):=by
 refine iR 0 (fun i=>sc s l m (oY z l) P K (i:Nat)) (fun i=>jz (fy (dX l z P) K i cF) []::H) m (sc s l m (oY z l) P K (Int.ofNat m)++[(34,.bool false)],jz (fy (dX l z P) K m cF) []::H) (by omega) (fun i hi=>?_) ?_
 · have hB2:=HF (a:=dX l z P) (W:=1400000) (fun f p=>Ae l z P h f p) (K:=K) i
   have e1:bk .i64 (i:Int) (Int.ofNat 1)=((i+1:Nat):Int):=lx (by omega)
   have hst:fy (dX l z P) K (i+1) cF=kZ (dX l z P) K i (i+1) (fy (dX l z P) K i cF):=rfl
   rw[hst]
   have hx:=MM n s l m z P H K i (fy (dX l z P) K i cF) h hK hm hi hB2
   generalize kZ (dX l z P) K i (i+1) (fy (dX l z P) K i cF)=S2 at *
   generalize fy (dX l z P) K i cF=S1 at *
   refine az (Ns (n+3) s l m (oY z l) P K (i:Nat) S1.h S1.g S1.c S1.h2 S1.g2 S1.c2 S2.h S2.g S2.c S2.h2 S2.g2 S2.c2 H) (aB _) (bu (af _ _) Lk (fun x h=>by rw[← Tr.ab h];simp only[fz.st,aN];exact hx)) (ag _ _) ?_
   rw[e1]
   exact wF
 · generalize fy (dX l z P) K m cF=S2 at *
   obtain ⟨x,h1,rfl⟩:=az (Q:=fun x=>x=(.exit 0,sc s l m (oY z l) P K (Int.ofNat m)++[(34,.bool false)],jz S2 []::H)) (Ky (n+3) s l m (oY z l) P K (Int.ofNat m) S2.h S2.g S2.c S2.h2 S2.g2 S2.c2 H) (aB _) (fP (af _ _) 2) (ag _ _) (by
    refine Tr.aj (fun hc=>?_) (fun hc=>Tr.ar rfl)
    simp (disch:=omega) only[nV,nW] at hc;omega)
   exact h1
end
end Go.Eng
end
section
namespace Go.Eng
open Go.Proofs
open Go.Proofs.YtigmfpmabgekoaaGreat.Known (mostS mostL most)
noncomputable def eC (x y:Int):Nat×al:=(0,.row (.I .i64 [x,y]))
noncomputable def G3 (s l m:Nat) (y P:Nat→Int) (K:Int):au:=[(0,gY (s+1) l y),(1,.int .i64 K),(6,cQ m P false),(7,.map 0 0),(8,.map 0 1)]
theorem M8 (n s l m:Nat) (y P:Nat→Int) (K:Int) (h:List Int→Bool) (g:List Int→Int) (c:Nat) (h2:List Int→Bool) (g2:List Int→Int) (c2:Nat) (h':List Int→Bool) (g':List Int→Int) (c':Nat) (h2':List Int→Bool) (g2':List Int→Int) (c2':Nat) (H:aa):aP (bt n 79 156) (il aT n 0) (eT a6 0 (sc s l m y P K (Int.ofNat 0)) (dp h g c h2 g2 c2 []::H) (.ok (.normal,hints (sc s l m y P K (Int.ofNat m)++[(34,.bool false)]),dp h' g' c' h2' g2' c2' []::H))) a7 (part Tryz.f79 [1,1,1,1,0]) (hints (G3 s l m y P K)) (dp h g c h2 g2 c2 []::H) =
 (fun (Z0:au)=>((fun (Z1:bo)=>Tr.reqP (Z0=Z0∧Z1::H=Z1::H) (Tr.ok (Ex.normal,[(0,AV.ptrT (some (Nat.succ s)) (Row.G [aO 7 l y]) 0,none),(1,AV.int .i64 K,none),(6,AV.slcT none (Row.M [aW.arr .i64 P m]) 1 m false,none),(7,AV.map 0 0,none),(8,AV.map 0 1,none),(32,AV.int .i64 (Int.ofNat m),none),(33,AV.int .i64 (Int.ofNat m),none),(34,AV.bool false,none)],{ lock:=false,bs:=[(0,al.fmap (KK.str 2) h' g' c'),(0,al.fmap (KK.str 2) h2' g2' c2')] } :: H))) { lock:=false,bs:=[(0,al.fmap (KK.str 2) h g c),(0,al.fmap (KK.str 2) h2 g2 c2)] })) [(0,AV.ptrT (some (Nat.succ s)) (Row.G [aO 7 l y]) 0),(1,AV.int .i64 K),(6,AV.slcT none (Row.M [aW.arr .i64 P m]) 1 m false),(7,AV.map 0 0),(8,AV.map 0 1),(32,AV.int .i64 (Int.ofNat m)),(33,AV.int .i64 (Int.ofNat 0))]:=by kernel_rfl
theorem M9 (n s l m:Nat) (y P:Nat→Int) (K:Int) (h:List Int→Bool) (g:List Int→Int) (c:Nat) (h2:List Int→Bool) (g2:List Int→Int) (c2:Nat) (H:aa):aP (bt n 79 156) (il aT n 0) a6 a7 (part Tryz.f79 [1,1,1,1,1,0]) (hints (sc s l m y P K (Int.ofNat m)++[(34,.bool false)])) (dp h g c h2 g2 c2 []::H) =
 Tr.ok (Ex.normal,[(6,AV.slcT none (Row.M [aW.arr .i64 P m]) 1 m false,none),(7,AV.map 0 0,none),(8,AV.map 0 1,none),(17,AV.ptr 0 2 0 0,none)],{ lock:=false,bs:=[(0,al.fmap (KK.str 2) h g c),(0,al.fmap (KK.str 2) h2 g2 c2),(0,al.row (Row.I .i64 [Int.negSucc 0,Int.ofNat 0]))] } :: H):=by kernel_rfl
theorem J8 (n m:Nat) (P:Nat→Int) (h:List Int→Bool) (g:List Int→Int) (c:Nat) (h2:List Int→Bool) (g2:List Int→Int) (c2:Nat) (x y:Int) (H:aa):(Go.Proofs.YtigmfpmabgekoaaGreat.Known.mostS).zK (bt n 79 156) (il aT n 0) (hints [(6,cQ m P false),(7,.map 0 0),(8,.map 0 1),(17,.ptr 0 2 0 0)]) (dp h g c h2 g2 c2 [eC x y]::H) =
 Tr.ok ([(6,AV.slcT none (Row.M [aW.arr .i64 P m]) 1 m false,none),(7,AV.map 0 0,none),(8,AV.map 0 1,none),(17,AV.ptr 0 2 0 0,none),(90,AV.map 0 0,none)],{ lock:=false,bs:=[(0,al.fmap (KK.str 2) h g c),(0,al.fmap (KK.str 2) h2 g2 c2),(0,al.row (Row.I .i64 [x,y]))] } :: H):=by kernel_rfl
theorem Nb (n m:Nat) (P:Nat→Int) (h:List Int→Bool) (g:List Int→Int) (c:Nat) (h2:List Int→Bool) (g2:List Int→Int) (c2:Nat) (b1 b2 b3:List (Nat×al)) (a b v x y:Int):(Go.Proofs.YtigmfpmabgekoaaGreat.Known.mostL).nz (bt n 79 156) (il aT n 0) a6 a7 3 4 (.agg (.I .i64 [a,b]),.int .i64 v) (hints [(6,cQ m P false),(7,.map 4 0),(8,.map 0 1),(17,.ptr 0 2 0 0),(91,.ptr 0 3 0 0)]) (⟨false,[(0,.dead),(0,.fmap (.str 2) h2 g2 c2),eC x y,(0,.dead)]⟩::[⟨true,b1⟩,⟨true,b2⟩,⟨true,b3⟩,gR (.fmap (.str 2) h g c)]) =
 (fun (Z0:aK)=>((fun (Z1:bo)=>((fun (Z2:bo)=>((fun (Z3:bo)=>Tr.ite (cP (g [x,y]) v) (Tr.ok (Z0,[Z2,{ lock:=true,bs:=b1 },{ lock:=true,bs:=b2 },{ lock:=true,bs:=b3 },Z1])) (Tr.ite (eU v (g [x,y])) (Tr.ite (cP b y) (Tr.ok (Z0,[Z2,{ lock:=true,bs:=b1 },{ lock:=true,bs:=b2 },{ lock:=true,bs:=b3 },Z1])) (Tr.ite (eU b y) (Tr.ite (cP a x) (Tr.ok (Z0,[Z2,{ lock:=true,bs:=b1 },{ lock:=true,bs:=b2 },{ lock:=true,bs:=b3 },Z1])) (Tr.ok (Z0,[Z3,{ lock:=true,bs:=b1 },{ lock:=true,bs:=b2 },{ lock:=true,bs:=b3 },Z1]))) (Tr.ok (Z0,[Z3,{ lock:=true,bs:=b1 },{ lock:=true,bs:=b2 },{ lock:=true,bs:=b3 },Z1])))) (Tr.ok (Z0,[Z3,{ lock:=true,bs:=b1 },{ lock:=true,bs:=b2 },{ lock:=true,bs:=b3 },Z1])))) { lock:=false,bs:=[(0,al.dead),(0,al.fmap (KK.str 2) h2 g2 c2),(0,al.row (Row.I .i64 [x,y])),(0,al.dead)] })) { lock:=false,bs:=[(0,al.dead),(0,al.fmap (KK.str 2) h2 g2 c2),(0,al.row (Row.I .i64 [a,b])),(0,al.dead)] })) { lock:=true,bs:=[(0,al.fmap (KK.str 2) h g c)] })) [(6,AV.slcT none (Row.M [aW.arr .i64 P m]) 1 m false,none),(7,AV.map 4 0,none),(8,AV.map 0 1,none),(17,AV.ptr 0 2 0 0,none),(91,AV.ptr 0 3 0 0,none)]:=by kernel_rfl
theorem Nc (n m:Nat) (P:Nat→Int) (h:List Int→Bool) (g:List Int→Int) (c:Nat) (h2:List Int→Bool) (g2:List Int→Int) (c2:Nat) (b1 b2 b3:List (Nat×al)) (a b v x y:Int):(Go.Proofs.YtigmfpmabgekoaaGreat.Known.mostL).nz (bt n 79 156) (il aT n 0) a6 a7 3 4 (.agg (.I .i64 [a,b]),.int .i64 v) (hints [(6,cQ m P false),(7,.map 4 0),(8,.map 0 1),(17,.ptr 0 2 0 0),(90,.map 4 0),(91,.ptr 0 3 0 0)]) (⟨false,[(0,.dead),(0,.fmap (.str 2) h2 g2 c2),eC x y,(0,.dead)]⟩::[⟨true,b1⟩,⟨true,b2⟩,⟨true,b3⟩,gR (.fmap (.str 2) h g c)]) =
 (fun (Z0:aK)=>((fun (Z1:bo)=>((fun (Z2:bo)=>((fun (Z3:bo)=>Tr.ite (cP (g [x,y]) v) (Tr.ok (Z0,[Z2,{ lock:=true,bs:=b1 },{ lock:=true,bs:=b2 },{ lock:=true,bs:=b3 },Z1])) (Tr.ite (eU v (g [x,y])) (Tr.ite (cP b y) (Tr.ok (Z0,[Z2,{ lock:=true,bs:=b1 },{ lock:=true,bs:=b2 },{ lock:=true,bs:=b3 },Z1])) (Tr.ite (eU b y) (Tr.ite (cP a x) (Tr.ok (Z0,[Z2,{ lock:=true,bs:=b1 },{ lock:=true,bs:=b2 },{ lock:=true,bs:=b3 },Z1])) (Tr.ok (Z0,[Z3,{ lock:=true,bs:=b1 },{ lock:=true,bs:=b2 },{ lock:=true,bs:=b3 },Z1]))) (Tr.ok (Z0,[Z3,{ lock:=true,bs:=b1 },{ lock:=true,bs:=b2 },{ lock:=true,bs:=b3 },Z1])))) (Tr.ok (Z0,[Z3,{ lock:=true,bs:=b1 },{ lock:=true,bs:=b2 },{ lock:=true,bs:=b3 },Z1])))) { lock:=false,bs:=[(0,al.dead),(0,al.fmap (KK.str 2) h2 g2 c2),(0,al.row (Row.I .i64 [x,y])),(0,al.dead)] })) { lock:=false,bs:=[(0,al.dead),(0,al.fmap (KK.str 2) h2 g2 c2),(0,al.row (Row.I .i64 [a,b])),(0,al.dead)] })) { lock:=true,bs:=[(0,al.fmap (KK.str 2) h g c)] })) [(6,AV.slcT none (Row.M [aW.arr .i64 P m]) 1 m false,none),(7,AV.map 4 0,none),(8,AV.map 0 1,none),(17,AV.ptr 0 2 0 0,none),(91,AV.ptr 0 3 0 0,none)]:=by kernel_rfl
theorem Na (n D m:Nat) (P:Nat→Int) (h2:List Int→Bool) (g2:List Int→Int) (c2:Nat) (R:aa) (x y:Int):(Go.Proofs.YtigmfpmabgekoaaGreat.Known.mostL).xG (bt n 79 156) (il aT n 0) (hints [(6,cQ m P false),(7,.map D 0),(8,.map 0 1),(17,.ptr 0 2 0 0),(91,.ptr 0 3 0 0)]) (⟨false,[(0,.dead),(0,.fmap (.str 2) h2 g2 c2),eC x y,(0,.dead)]⟩::R) =
 Tr.ok ([(6,AV.slcT none (Row.M [aW.arr .i64 P m]) 1 m false,none),(7,AV.map D 0,none),(8,AV.map 0 1,none),(17,AV.ptr 0 2 0 0,none),(91,AV.ptr 0 3 0 0,none),(92,AV.tup [AV.bool false],none),(93,AV.bool false,none)],{ lock:=false,bs:=[(0,al.dead),(0,al.fmap (KK.str 2) h2 g2 c2),(0,al.row (Row.I .i64 [x,y])),(0,al.dead)] } :: R):=by kernel_rfl
end Go.Eng
end
