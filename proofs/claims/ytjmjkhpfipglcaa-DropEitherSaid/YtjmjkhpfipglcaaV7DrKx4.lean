/- Drop: newTable: rounds over two places. -/
import Derived.Test.YtjmjkhpfipglcaaV7DrGx4
section
namespace Go.Eng
open Go.Proofs
set_option linter.unusedVariables false
set_option linter.unusedSimpArgs false
set_option maxRecDepth 100000
def Ls (ls:Nat) (tb:Nat→Int→Int→Bool):List AV→Option (Prop×AV)
 | [t,.int .i64 p,.int .i64 q,.fn (.func c) a []]=>some (t=.ptr 4 2 0 0∧a=[.ptr 4 2 0 0]∧(c=100∨c=101)∧bA p (Int.ofNat ls)=true∧bA q (Int.ofNat ls)=true,.bool (tb c p q))
 | _=>none
noncomputable def IE (q:Int):aO:=[(3,.ptr 4 3 0 0),(7,.ptr 2 0 0 0),(8,.int .i64 q)]
theorem FL (n:Nat) (pp w:Int) (ls ld:Nat) (zs zd sz kd:Nat→Int) (H:ae) (L Li:bw) (q:Int) (tb:Nat→Int→Int→Bool):aH (xS (n+3) 77 94 2 1) (il (GU aG 99 (hT pp w ls ld zs zd sz kd H L Li) (Ls ls tb)) (n+3) 0) aJ aK (part Try.f77 [1,1,1,0,1,0,1,0,1,0,1]) (hints (IE q)) (hT pp w ls ld zs zd sz kd H L Li) =
 (fun (Z0:b6)=>((fun (Z1:b6)=>Tr.ite (aF pp q) (Tr.ok (Ex.normal,[(3,AV.ptr 4 3 0 0,none),(7,AV.ptr 2 0 0 0,none),(8,AV.int .i64 q,none),(57,AV.bool true,some 1)],af::af::Z1::af::Z0::H)) (Tr.reqP ((AV.ptr 4 2 0 0=AV.ptr 4 2 0 0∧[AV.ptr 4 2 0 0]=[AV.ptr 4 2 0 0]∧(100=100∨100=101)∧bA pp (Int.ofNat ls)=true∧bA q (Int.ofNat ls)=true)∧af::af::Z1::af::Z0::H=af::af::Z1::af::Z0::H) (Tr.ite (tb 100 pp q) (Tr.req (br (ay .i64 pp (Int.ofNat 2)) 12) (Tr.req (br (ay .i64 q (Int.ofNat 2)) 12) (Tr.req (dH 0 0) (Tr.req (kO (al (al 4 (ay .i64 pp (Int.ofNat 2)) 12) (ay .i64 q (Int.ofNat 2)) 1) 1 4 144) (Tr.req (cX (cB 0 0) (cB 0 1)) (Tr.ok (Ex.normal,[],af::af::Z1::af::{ lock:=false,bs:=[(0,aj.row (Row.G [AV.int .i64 w,aU 2 ls zs,aU 3 ld zd])),(0,aj.row (Row.M [aC.arr .i64 sz (aI ls 2)])),(0,aj.row (Row.M [aC.one (AV.int .i64 w),aC.one (aU 2 ls zs),aC.one (aU 3 ld zd),aC.one (AV.slc 0 1 0 0 2 ls (some ls)),aC.arr .i64 (fO kd (fM (al (al 4 (ay .i64 pp (Int.ofNat 2)) 12) (ay .i64 q (Int.ofNat 2)) 1) 4) (Int.ofNat 2)) 144])),(0,aj.row (Row.G [AV.ptr 0 2 0 0])),(0,aj.loop L)] } :: H))))))) (Tr.reqP ((AV.ptr 4 2 0 0=AV.ptr 4 2 0 0∧[AV.ptr 4 2 0 0]=[AV.ptr 4 2 0 0]∧(101=100∨101=101)∧bA pp (Int.ofNat ls)=true∧bA q (Int.ofNat ls)=true)∧af::af::Z1::af::Z0::H=af::af::Z1::af::Z0::H) (Tr.ite (tb 101 pp q) (Tr.req (br (ay .i64 pp (Int.ofNat 2)) 12) (Tr.req (br (ay .i64 q (Int.ofNat 2)) 12) (Tr.req (dH 0 0) (Tr.req (kO (al (al 4 (ay .i64 pp (Int.ofNat 2)) 12) (ay .i64 q (Int.ofNat 2)) 1) 1 4 144) (Tr.req (cX (cB 0 0) (cB 0 1)) (Tr.ok (Ex.normal,[],af::af::Z1::af::{ lock:=false,bs:=[(0,aj.row (Row.G [AV.int .i64 w,aU 2 ls zs,aU 3 ld zd])),(0,aj.row (Row.M [aC.arr .i64 sz (aI ls 2)])),(0,aj.row (Row.M [aC.one (AV.int .i64 w),aC.one (aU 2 ls zs),aC.one (aU 3 ld zd),aC.one (AV.slc 0 1 0 0 2 ls (some ls)),aC.arr .i64 (fO kd (fM (al (al 4 (ay .i64 pp (Int.ofNat 2)) 12) (ay .i64 q (Int.ofNat 2)) 1) 4) (Int.ofNat 1)) 144])),(0,aj.row (Row.G [AV.ptr 0 2 0 0])),(0,aj.loop L)] } :: H))))))) (Tr.ok (Ex.normal,[(3,AV.ptr 4 3 0 0,none),(7,AV.ptr 2 0 0 0,none),(8,AV.int .i64 q,none),(77,AV.bool false,some 1)],af::af::Z1::af::Z0::H))))))) { lock:=false,bs:=[(0,aj.row (Row.I .i64 [pp])),(0,aj.loop Li)] })) { lock:=false,bs:=[(0,aj.row (Row.G [AV.int .i64 w,aU 2 ls zs,aU 3 ld zd])),(0,aj.row (Row.M [aC.arr .i64 sz (aI ls 2)])),(0,aj.row (Row.M [aC.one (AV.int .i64 w),aC.one (aU 2 ls zs),aC.one (aU 3 ld zd),aC.one (AV.slc 0 1 0 0 2 ls (some ls)),aC.arr .i64 kd 144])),(0,aj.row (Row.G [AV.ptr 0 2 0 0])),(0,aj.loop L)] }:=by kernel_rfl
theorem Kw (n:Nat) (pp w:Int) (ls ld:Nat) (zs zd sz kd kd':Nat→Int) (H:ae) (L Li:bw) (q:Int):aH (bF n 109 18) (IM (il aG n 0) 1 1 [.int .i64 q] (af::pT pp [(0,.loop Li)]::af::gZ w ls ld zs zd sz kd [(0,.loop L)]::H) (.ok (.bool true,af::pT pp [(0,.loop Li)]::af::gZ w ls ld zs zd sz kd' [(0,.loop L)]::H))) aJ aK (part Try.f109 [1,0,0]) (hints [(0,.yld 1 1),(1,.ptrT (some 1) (.G [.ptr 2 2 0 0]) 0),(3,.int .i64 q)]) (af::pT pp [(0,.loop Li)]::af::gZ w ls ld zs zd sz kd [(0,.loop L)]::H) =
 (fun (Z0:b6)=>((fun (Z1:b6)=>((fun (Z2:b6)=>((fun (Z3:Nat×AV×Option Nat)=>Tr.ite (bA q (Int.ofNat ls)) (Tr.reqP ([AV.int .i64 q]=[AV.int .i64 q]∧af::Z2::af::Z0::H=af::Z2::af::Z0::H) (Tr.ite (aD true) (Tr.ok (Ex.ret,[(0,AV.yld 1 1,none),Z3,(3,AV.int .i64 q,none),(17,AV.bool true,some 1)],af::Z2::af::Z1::H)) (Tr.ok (Ex.normal,[(0,AV.yld 1 1,none),Z3,(3,AV.int .i64 (ay .i64 q (Int.ofNat 1)),none)],af::Z2::af::Z1::H)))) (Tr.ok (Ex.exit 0,[(0,AV.yld 1 1,none),Z3,(3,AV.int .i64 q,none),(11,AV.bool false,some 1)],af::Z2::af::Z0::H))) (1,AV.ptrT (some 1) (Row.G [AV.ptr 2 2 0 0]) 0,none))) { lock:=false,bs:=[(0,aj.row (Row.I .i64 [pp])),(0,aj.loop Li)] })) { lock:=false,bs:=[(0,aj.row (Row.G [AV.int .i64 w,aU 2 ls zs,aU 3 ld zd])),(0,aj.row (Row.M [aC.arr .i64 sz (aI ls 2)])),(0,aj.row (Row.M [aC.one (AV.int .i64 w),aC.one (aU 2 ls zs),aC.one (aU 3 ld zd),aC.one (AV.slc 0 1 0 0 2 ls (some ls)),aC.arr .i64 kd' 144])),(0,aj.row (Row.G [AV.ptr 0 2 0 0])),(0,aj.loop L)] })) { lock:=false,bs:=[(0,aj.row (Row.G [AV.int .i64 w,aU 2 ls zs,aU 3 ld zd])),(0,aj.row (Row.M [aC.arr .i64 sz (aI ls 2)])),(0,aj.row (Row.M [aC.one (AV.int .i64 w),aC.one (aU 2 ls zs),aC.one (aU 3 ld zd),aC.one (AV.slc 0 1 0 0 2 ls (some ls)),aC.arr .i64 kd 144])),(0,aj.row (Row.G [AV.ptr 0 2 0 0])),(0,aj.loop L)] }:=by kernel_rfl
theorem Lb (n:Nat) (pp w:Int) (ls ld:Nat) (zs zd sz kd kd':Nat→Int) (H:ae) (L Li:bw):aW Try.prog (cd n) 100000 109 Try.f109 (Kt.kt 109) (il aG n 0) (dc aJ 0 [(0,.yld 1 1),(1,.ptrT (some 1) (.G [.ptr 2 2 0 0]) 0),(3,.int .i64 (-2))] (af::pT pp [(0,.loop Li)]::af::gZ w ls ld zs zd sz kd [(0,.loop L)]::H) (.ok (.normal,hints [(0,.yld 1 1),(1,.ptrT (some 1) (.G [.ptr 2 2 0 0]) 0),(3,.int .i64 (Int.ofNat ls)),(11,.bool false)],af::pT pp [(0,.loop Li)]::af::gZ w ls ld zs zd sz kd' [(0,.loop L)]::H))) aK [(.yld 0 1,none),(.ptrT (some 0) (.G [.ptr 2 2 0 0]) 0,none)] (pT pp [(0,.loop Li)]::af::gZ w ls ld zs zd sz kd [(0,.loop L)]::H) =
 (fun (Z0:b6)=>((fun (Z1:b6)=>((fun (Z2:aO)=>Tr.reqP (Z2=Z2∧af::Z1::af::Z0::H=af::Z1::af::Z0::H) (Tr.ok ((AV.tup [],none),Z1::af::{ lock:=false,bs:=[(0,aj.row (Row.G [AV.int .i64 w,aU 2 ls zs,aU 3 ld zd])),(0,aj.row (Row.M [aC.arr .i64 sz (aI ls 2)])),(0,aj.row (Row.M [aC.one (AV.int .i64 w),aC.one (aU 2 ls zs),aC.one (aU 3 ld zd),aC.one (AV.slc 0 1 0 0 2 ls (some ls)),aC.arr .i64 kd' 144])),(0,aj.row (Row.G [AV.ptr 0 2 0 0])),(0,aj.loop L)] } :: H))) [(0,AV.yld 1 1),(1,AV.ptrT (some 1) (Row.G [AV.ptr 2 2 0 0]) 0),(3,AV.int .i64 (Int.negSucc 1))])) { lock:=false,bs:=[(0,aj.row (Row.I .i64 [pp])),(0,aj.loop Li)] })) { lock:=false,bs:=[(0,aj.row (Row.G [AV.int .i64 w,aU 2 ls zs,aU 3 ld zd])),(0,aj.row (Row.M [aC.arr .i64 sz (aI ls 2)])),(0,aj.row (Row.M [aC.one (AV.int .i64 w),aC.one (aU 2 ls zs),aC.one (aU 3 ld zd),aC.one (AV.slc 0 1 0 0 2 ls (some ls)),aC.arr .i64 kd 144])),(0,aj.row (Row.G [AV.ptr 0 2 0 0])),(0,aj.loop L)] }:=by kernel_rfl
theorem Kz (n:Nat) (w:Int) (ls ld:Nat) (zs zd sz kd kd':Nat→Int) (H:ae) (L:bw) (q:Int):aH (bF n 109 18) (IM (il aG n 0) 1 4 [.int .i64 q] (af::gZ w ls ld zs zd sz kd [(0,.loop L)]::H) (.ok (.bool true,af::gZ w ls ld zs zd sz kd' [(0,.loop L)]::H))) aJ aK (part Try.f109 [1,0,0]) (hints [(0,.yld 1 4),(1,qg 1),(3,.int .i64 q)]) (af::gZ w ls ld zs zd sz kd [(0,.loop L)]::H) =
 (fun (Z0:b6)=>((fun (Z1:b6)=>((fun (Z2:Nat×AV×Option Nat)=>Tr.ite (bA q (Int.ofNat ls)) (Tr.reqP ([AV.int .i64 q]=[AV.int .i64 q]∧af::Z0::H=af::Z0::H) (Tr.ite (aD true) (Tr.ok (Ex.ret,[(0,AV.yld 1 4,none),Z2,(3,AV.int .i64 q,none),(17,AV.bool true,some 1)],af::Z1::H)) (Tr.ok (Ex.normal,[(0,AV.yld 1 4,none),Z2,(3,AV.int .i64 (ay .i64 q (Int.ofNat 1)),none)],af::Z1::H)))) (Tr.ok (Ex.exit 0,[(0,AV.yld 1 4,none),Z2,(3,AV.int .i64 q,none),(11,AV.bool false,some 1)],af::Z0::H))) (1,AV.ptrT (some 1) (Row.G [AV.ptr 0 2 0 0]) 0,none))) { lock:=false,bs:=[(0,aj.row (Row.G [AV.int .i64 w,aU 2 ls zs,aU 3 ld zd])),(0,aj.row (Row.M [aC.arr .i64 sz (aI ls 2)])),(0,aj.row (Row.M [aC.one (AV.int .i64 w),aC.one (aU 2 ls zs),aC.one (aU 3 ld zd),aC.one (AV.slc 0 1 0 0 2 ls (some ls)),aC.arr .i64 kd' 144])),(0,aj.row (Row.G [AV.ptr 0 2 0 0])),(0,aj.loop L)] })) { lock:=false,bs:=[(0,aj.row (Row.G [AV.int .i64 w,aU 2 ls zs,aU 3 ld zd])),(0,aj.row (Row.M [aC.arr .i64 sz (aI ls 2)])),(0,aj.row (Row.M [aC.one (AV.int .i64 w),aC.one (aU 2 ls zs),aC.one (aU 3 ld zd),aC.one (AV.slc 0 1 0 0 2 ls (some ls)),aC.arr .i64 kd 144])),(0,aj.row (Row.G [AV.ptr 0 2 0 0])),(0,aj.loop L)] }:=by kernel_rfl
theorem Ld (n:Nat) (w:Int) (ls ld:Nat) (zs zd sz kd kd':Nat→Int) (H:ae) (L:bw):aW Try.prog (cd n) 100000 109 Try.f109 (Kt.kt 109) (il aG n 0) (dc aJ 0 [(0,.yld 1 4),(1,qg 1),(3,.int .i64 (-2))] (af::gZ w ls ld zs zd sz kd [(0,.loop L)]::H) (.ok (.normal,hints [(0,.yld 1 4),(1,qg 1),(3,.int .i64 (Int.ofNat ls)),(11,.bool false)],af::gZ w ls ld zs zd sz kd' [(0,.loop L)]::H))) aK [(.yld 0 4,none),(qg 0,none)] (gZ w ls ld zs zd sz kd [(0,.loop L)]::H) =
 (fun (Z0:b6)=>((fun (Z1:aO)=>Tr.reqP (Z1=Z1∧af::Z0::H=af::Z0::H) (Tr.ok ((AV.tup [],none),{ lock:=false,bs:=[(0,aj.row (Row.G [AV.int .i64 w,aU 2 ls zs,aU 3 ld zd])),(0,aj.row (Row.M [aC.arr .i64 sz (aI ls 2)])),(0,aj.row (Row.M [aC.one (AV.int .i64 w),aC.one (aU 2 ls zs),aC.one (aU 3 ld zd),aC.one (AV.slc 0 1 0 0 2 ls (some ls)),aC.arr .i64 kd' 144])),(0,aj.row (Row.G [AV.ptr 0 2 0 0])),(0,aj.loop L)] } :: H))) [(0,AV.yld 1 4),(1,AV.ptrT (some 1) (Row.G [AV.ptr 0 2 0 0]) 0),(3,AV.int .i64 (Int.negSucc 1))])) { lock:=false,bs:=[(0,aj.row (Row.G [AV.int .i64 w,aU 2 ls zs,aU 3 ld zd])),(0,aj.row (Row.M [aC.arr .i64 sz (aI ls 2)])),(0,aj.row (Row.M [aC.one (AV.int .i64 w),aC.one (aU 2 ls zs),aC.one (aU 3 ld zd),aC.one (AV.slc 0 1 0 0 2 ls (some ls)),aC.arr .i64 kd 144])),(0,aj.row (Row.G [AV.ptr 0 2 0 0])),(0,aj.loop L)] }:=by kernel_rfl
theorem Oc (n:Nat) (pp w:Int) (ls ld:Nat) (zs zd sz kd:Nat→Int) (H:ae) (L Li:bw) (q:Int):aH (xS n 77 94 2 1) (il aG n 0) aJ aK (part Try.f77 [1,1,1,0,1,0,1,0,1,0,0]) (hints [(3,.ptr 4 3 0 0),(7,.ptr 2 0 0 0),(55,AV.fn (Fn.func 109) [] [AV.ptrT (some 2) (Row.G [AV.ptr 2 2 0 0]) 0]),(56,.int .i64 q)]) (hT pp w ls ld zs zd sz kd H L Li) =
 Tr.ok (Ex.normal,[(3,AV.ptr 4 3 0 0,none),(7,AV.ptr 2 0 0 0,none),(8,AV.int .i64 q,none)],af::af::{ lock:=false,bs:=[(0,aj.row (Row.I .i64 [pp])),(0,aj.loop Li)] } :: af::{ lock:=false,bs:=[(0,aj.row (Row.G [AV.int .i64 w,aU 2 ls zs,aU 3 ld zd])),(0,aj.row (Row.M [aC.arr .i64 sz (aI ls 2)])),(0,aj.row (Row.M [aC.one (AV.int .i64 w),aC.one (aU 2 ls zs),aC.one (aU 3 ld zd),aC.one (AV.slc 0 1 0 0 2 ls (some ls)),aC.arr .i64 kd 144])),(0,aj.row (Row.G [AV.ptr 0 2 0 0])),(0,aj.loop L)] } :: H):=by kernel_rfl
theorem Jw {n f nt:Nat} {c:Code} (id:Nat) (F:Nat→aO) (G:Nat→ae) (N:Nat) (y:dg) (hN:N<99999)
 (hs:∀ j,j<N→∃ f' g,exec (bF n f nt) c (F j) (G j)=some (.normal,f',g)∧f'=F (j+1)∧tidy (bm (G 0)) (F (j+1)) g=(F (j+1),G (j+1)))
 (he:exec (bF n f nt) c (F N) (G N)=some y.st∧y.1=.exit id):exec (bF n f nt) (.block id (.loop c)) (F 0) (G 0)=some (.normal,y.st.2):=by
 have key:=wG (body:=exec (bF n f nt) c) (n:=bm (G 0)) F G N y.st
  (fun j hj=>by
    obtain ⟨f',g,h1,h2,h3⟩:=hs j hj
    exact ⟨f',g,h1,by rw[h2];exact h3⟩)
  ⟨he.1,by rw[show y.st.1=y.1 from rfl,he.2];simp⟩ 100000 (by omega)
 have hr:=he.2
 obtain ⟨e,f1,g1⟩:=y
 dsimp only at hr
 subst hr
 exact c7 key
def uN (p q:Int):Nat:=(p+2).toNat*12+(q+2).toNat
def Cq (w:Int) (zs sz:Nat→Int) (p q:Int) (kd:Nat→Int):Nat→Int :=
 if p=q then kd
 else if aV w zs (fun s=>sz (s.toNat*2)) p q then fun i=>if i=uN p q then 2 else kd i
 else if aV w zs (fun s=>sz (s.toNat*2+1)) p q then fun i=>if i=uN p q then 1 else kd i
 else kd
noncomputable def iW:bw:={ state:=.ready,pending:=none,fn:=77,nt:=94,fr:=[(3,.ptr 2 3 0 0),(7,.ptr 0 0 0 0),(55,AV.fn (Fn.func 109) [] [AV.ptrT (some 0) (Row.G [AV.ptr 2 2 0 0]) 0])],params:=[56],assign:=part Try.f77 [1,1,1,0,1,0,1,0,1,0,0],body:=part Try.f77 [1,1,1,0,1,0,1,0,1,0,1] }
def Iq (w:Int) (zs sz:Nat→Int) (c:Nat) (p q:Int):Bool:=if c=100 then aV w zs (fun s=>sz (s.toNat*2)) p q else aV w zs (fun s=>sz (s.toNat*2+1)) p q
section
variable (n:Nat) (pp w:Int) (ls ld:Nat) (zs zd sz kd:Nat→Int) (H:ae) (L Li:bw)
theorem JE (hls:ls≤10):(il (GU aG 99 (hT pp w ls ld zs zd sz kd H L Li) (Ls ls (Iq w zs sz))) (n+3) 0).Ok (cd (n+3)):=by
 refine bQ _ (n+3) 0 (fun k=>B4 (bB _) (fun args p v h hp=>?_))
 unfold Ls at h
 split at h
 · simp only[nP] at h
   obtain ⟨rfl,rfl⟩:=h
   obtain ⟨rfl,rfl,hc,h1,h2⟩:=hp
   rw[cj,decide_eq_true_eq] at h1 h2
   rw[show n+3+k=n+k+3 by omega]
   rcases hc with rfl | rfl
   · exact Me (n+k) w pp _ _ ls ld zs zd sz kd H L Li (by simpa using h1) (by simpa using h2) hls
   · exact Mf (n+k) w pp _ _ ls ld zs zd sz kd H L Li (by simpa using h1) (by simpa using h2) hls
 · cases h
theorem NV (hls:ls≤10) (q:Int) (h1:-2≤pp∧pp<ls) (h2:-2≤q∧q<ls):∃ fr',exec (xS (n+3) 77 94 2 1) (part Try.f77 [1,1,1,0,1,0,1,0,1,0,1]) (IE q) (hT pp w ls ld zs zd sz kd H L Li)=some (.normal,fr',hT pp w ls ld zs zd sz (Cq w zs sz pp q kd) H L Li):=by
 have key:∀ x:dg,(aH (xS (n+3) 77 94 2 1) (il (GU aG 99 (hT pp w ls ld zs zd sz kd H L Li) (Ls ls (Iq w zs sz))) (n+3) 0) aJ aK (part Try.f77 [1,1,1,0,1,0,1,0,1,0,1]) (hints (IE q)) (hT pp w ls ld zs zd sz kd H L Li)).run=some x→exec (xS (n+3) 77 94 2 1) (part Try.f77 [1,1,1,0,1,0,1,0,1,0,1]) (IE q) (hT pp w ls ld zs zd sz kd H L Li)=some x.st:=by
  intro x hx
  have:=bK (cx:=xS (n+3) 77 94 2 1) (JE n pp w ls ld zs zd sz kd H L Li hls) _ (ah _ _) (ai _ _) _ _ _ hx
  rw[aw] at this
  exact this
 have e1:IntKind.i64.wrap (pp+2)=pp+2:=Go.IntWalk.i64_in _ (by omega)
 have e2:IntKind.i64.wrap (q+2)=q+2:=Go.IntWalk.i64_in _ (by omega)
 have eix:4+(pp+2).toNat*12+(q+2).toNat*1-4=uN pp q:=by unfold uN;omega
 have i2:Int.ofNat 2=2:=rfl
 have b1:bA pp (Int.ofNat ls)=true:=by rw[cj,decide_eq_true_eq];exact h1.2
 have b2:bA q (Int.ofNat ls)=true:=by rw[cj,decide_eq_true_eq];exact h2.2
 have b3:br (pp+2) 12=true:=by rw[dW,decide_eq_true_eq];omega
 have b4:br (q+2) 12=true:=by rw[dW,decide_eq_true_eq];omega
 have b5:kO (4+(pp+2).toNat*12+(q+2).toNat*1) 1 4 144=true:=by rw[fH,decide_eq_true_eq];omega
 by_cases e:pp=q
 · refine ⟨[(3,.ptr 4 3 0 0),(7,.ptr 2 0 0 0),(8,.int .i64 q),(57,.bool true)],(key _ (by rw[FL,Tr.run_ite,aP,decide_eq_true e,cond_true];rfl)).trans ?_⟩
   simp only[Cq,if_pos e]
   rfl
 · cases ta:aV w zs (fun s=>sz (s.toNat*2)) pp q with
   | true =>
     refine ⟨[],(key _ (by rw[FL,Tr.run_ite,aP,decide_eq_false e,cond_false,Tr.bc ⟨⟨rfl,rfl,.inl rfl,b1,b2⟩,rfl⟩,Tr.run_ite,show Iq w zs sz 100 pp q=true from ta,cond_true,aR,aR,i2,e1,e2,bT,bT,Tr.b8,b3,cond_true,Tr.b8,b4,cond_true,Tr.b8,jL,cond_true,Tr.b8,b5,cond_true,fh,eix,eF,Tr.b8,FT];rfl)).trans ?_⟩
     simp only[Cq,if_neg e,ta,if_true]
     rfl
   | false =>
     cases tb:aV w zs (fun s=>sz (s.toNat*2+1)) pp q with
     | true =>
       refine ⟨[],(key _ (by rw[FL,Tr.run_ite,aP,decide_eq_false e,cond_false,Tr.bc ⟨⟨rfl,rfl,.inl rfl,b1,b2⟩,rfl⟩,Tr.run_ite,show Iq w zs sz 100 pp q=false from ta,cond_false,Tr.bc ⟨⟨rfl,rfl,.inr rfl,b1,b2⟩,rfl⟩,Tr.run_ite,show Iq w zs sz 101 pp q=true from tb,cond_true,aR,aR,i2,e1,e2,bT,bT,Tr.b8,b3,cond_true,Tr.b8,b4,cond_true,Tr.b8,jL,cond_true,Tr.b8,b5,cond_true,fh,eix,eF,Tr.b8,FT];rfl)).trans ?_⟩
       simp only[Cq,if_neg e,ta,tb,if_true,Bool.false_eq_true,if_false]
       rfl
     | false =>
       refine ⟨[(3,.ptr 4 3 0 0),(7,.ptr 2 0 0 0),(8,.int .i64 q),(77,.bool false)],(key _ (by rw[FL,Tr.run_ite,aP,decide_eq_false e,cond_false,Tr.bc ⟨⟨rfl,rfl,.inl rfl,b1,b2⟩,rfl⟩,Tr.run_ite,show Iq w zs sz 100 pp q=false from ta,cond_false,Tr.bc ⟨⟨rfl,rfl,.inr rfl,b1,b2⟩,rfl⟩,Tr.run_ite,show Iq w zs sz 101 pp q=false from tb,cond_false];rfl)).trans ?_⟩
       simp only[Cq,if_neg e,ta,tb,Bool.false_eq_true,if_false]
       rfl
end
end Go.Eng
end
section
namespace Go.Eng
open Go.Proofs
set_option linter.unusedVariables false
set_option linter.unusedSimpArgs false
set_option maxRecDepth 100000
def sL (w:Int) (zs sz:Nat→Int) (p:Int) (kd:Nat→Int):Nat→Nat→Int
 | 0=>kd
 | j+1=>Cq w zs sz p ((j:Int)-2) (sL w zs sz p kd j)
theorem Dq (j:Nat) (h:j<1000):IntKind.i64.wrap (((j:Int)-2)+1)=((j+1:Nat):Int)-2:=by
 rw[show ((j:Int)-2+1)=((j+1:Nat):Int)-2 by omega]
 exact Go.IntWalk.i64_in _ (by omega)
noncomputable def gI (pp w:Int) (ls ld:Nat) (zs zd sz kd:Nat→Int) (H:ae) (L Li:bw):ae:=af::pT pp [(0,.loop Li)]::af::gZ w ls ld zs zd sz kd [(0,.loop L)]::H
noncomputable def G8 (j:Nat):aO:=[(0,.yld 1 1),(1,.ptrT (some 1) (.G [.ptr 2 2 0 0]) 0),(3,.int .i64 ((j:Int)-2))]
theorem BK:∀ b,(0,b) ∈ av (aL Try.f109)→b=.loop (part Try.f109 [1,0,0]):=by
 have:av (aL Try.f109)=[(0,.loop (part Try.f109 [1,0,0])),(1,part Try.f109 [1,0,0,1,0,0])]:=by kernel_rfl
 intro b hb;rw[this] at hb;simpa using hb
theorem KA (n:Nat) (pp w:Int) (ls ld:Nat) (zs zd sz kd:Nat→Int) (H:ae) (L Li:bw) (q:Int):aH (bF n 109 18) (il aG n 0) aJ aK (part Try.f109 [1,0,0]) (hints [(0,.yld 1 1),(1,.ptrT (some 1) (.G [.ptr 2 2 0 0]) 0),(3,.int .i64 q)]) (af::pT pp [(0,.loop Li)]::af::gZ w ls ld zs zd sz kd [(0,.loop L)]::H) =
 Tr.ite (bA q (Int.ofNat ls)) Tr.bad (Tr.ok (Ex.exit 0,[(0,AV.yld 1 1,none),(1,AV.ptrT (some 1) (Row.G [AV.ptr 2 2 0 0]) 0,none),(3,AV.int .i64 q,none),(11,AV.bool false,some 1)],af::{ lock:=false,bs:=[(0,aj.row (Row.I .i64 [pp])),(0,aj.loop Li)] } :: af::{ lock:=false,bs:=[(0,aj.row (Row.G [AV.int .i64 w,aU 2 ls zs,aU 3 ld zd])),(0,aj.row (Row.M [aC.arr .i64 sz (aI ls 2)])),(0,aj.row (Row.M [aC.one (AV.int .i64 w),aC.one (aU 2 ls zs),aC.one (aU 3 ld zd),aC.one (AV.slc 0 1 0 0 2 ls (some ls)),aC.arr .i64 kd 144])),(0,aj.row (Row.G [AV.ptr 0 2 0 0])),(0,aj.loop L)] } :: H)):=by kernel_rfl
theorem KB (n:Nat) (w:Int) (ls ld:Nat) (zs zd sz kd:Nat→Int) (H:ae) (L:bw) (q:Int):aH (bF n 109 18) (il aG n 0) aJ aK (part Try.f109 [1,0,0]) (hints [(0,.yld 1 4),(1,qg 1),(3,.int .i64 q)]) (af::gZ w ls ld zs zd sz kd [(0,.loop L)]::H) =
 Tr.ite (bA q (Int.ofNat ls)) Tr.bad (Tr.ok (Ex.exit 0,[(0,AV.yld 1 4,none),(1,AV.ptrT (some 1) (Row.G [AV.ptr 0 2 0 0]) 0,none),(3,AV.int .i64 q,none),(11,AV.bool false,some 1)],af::{ lock:=false,bs:=[(0,aj.row (Row.G [AV.int .i64 w,aU 2 ls zs,aU 3 ld zd])),(0,aj.row (Row.M [aC.arr .i64 sz (aI ls 2)])),(0,aj.row (Row.M [aC.one (AV.int .i64 w),aC.one (aU 2 ls zs),aC.one (aU 3 ld zd),aC.one (AV.slc 0 1 0 0 2 ls (some ls)),aC.arr .i64 kd 144])),(0,aj.row (Row.G [AV.ptr 0 2 0 0])),(0,aj.loop L)] } :: H)):=by kernel_rfl
section
variable (n:Nat) (pp w:Int) (ls ld:Nat) (zs zd sz kd:Nat→Int) (H:ae) (L:bw)
theorem NX (hls:ls≤10) (q:Int) (h1:-2≤pp∧pp<ls) (h2:-2≤q∧q<ls):cd (n+4) (.round 1 1) [.int .i64 q] (gI pp w ls ld zs zd sz kd H L iW)=some (.bool true,gI pp w ls ld zs zd sz (Cq w zs sz pp q kd) H L iW):=by
 obtain ⟨fr',h2⟩:=NV n pp w ls ld zs zd sz kd H L { iW with state:=.busy } hls q h1 h2
 have ha:exec (xS (n+3) 77 94 2 1) (part Try.f77 [1,1,1,0,1,0,1,0,1,0,0]) [(3,.ptr 4 3 0 0),(7,.ptr 2 0 0 0),(55,AV.fn (Fn.func 109) [] [AV.ptrT (some 2) (Row.G [AV.ptr 2 2 0 0]) 0]),(56,.int .i64 q)] (hT pp w ls ld zs zd sz kd H L iW)=some (.normal,IE q,hT pp w ls ld zs zd sz kd H L iW):=by
  have:=bK (cx:=xS (n+3) 77 94 2 1) (bk (n+3)) (part Try.f77 [1,1,1,0,1,0,1,0,1,0,0]) (ah _ _) (ai _ _) (hints [(3,.ptr 4 3 0 0),(7,.ptr 2 0 0 0),(55,AV.fn (Fn.func 109) [] [AV.ptrT (some 2) (Row.G [AV.ptr 2 2 0 0]) 0]),(56,.int .i64 q)]) (hT pp w ls ld zs zd sz kd H L iW) (.normal,hints (IE q),hT pp w ls ld zs zd sz kd H L iW) (by rw[Oc];rfl)
  exact this
 exact dE (n:=n+3) (l:=iW) (l1:=iW) (l2:={ iW with state:=.busy }) rfl rfl rfl rfl ha rfl rfl h2 rfl
theorem JM (hls:ls≤10) (h1:-2≤pp∧pp<ls):exec (bF (n+4) 109 18) (.block 0 (.loop (part Try.f109 [1,0,0]))) (G8 0) (gI pp w ls ld zs zd sz kd H L iW)=some (.normal,G8 (ls+2)++[(11,.bool false)],gI pp w ls ld zs zd sz (sL w zs sz pp kd (ls+2)) H L iW):=by
 refine Jw 0 G8 (fun j=>gI pp w ls ld zs zd sz (sL w zs sz pp kd j) H L iW) (ls+2) (.exit 0,hints (G8 (ls+2))++[(11,.bool false,some 1)],gI pp w ls ld zs zd sz (sL w zs sz pp kd (ls+2)) H L iW) (by omega) (fun j hj=>?_) ⟨?_,rfl⟩
 · have hr:=NX n pp w ls ld zs zd sz (sL w zs sz pp kd j) H L hls ((j:Int)-2) h1 ⟨by omega,by omega⟩
   refine ⟨G8 (j+1),gI pp w ls ld zs zd sz (sL w zs sz pp kd (j+1)) H L iW,rf (Kw (n+4) pp w ls ld zs zd sz (sL w zs sz pp kd j) (sL w zs sz pp kd (j+1)) H L iW ((j:Int)-2)) (vf (bk (n+4)) (fun x hx=>?_)) (ah _ _) (ai _ _) (x:=(.normal,hints (G8 (j+1)),gI pp w ls ld zs zd sz (sL w zs sz pp kd (j+1)) H L iW)) ?_,rfl,rfl⟩
   · rw[← Tr.ab hx];exact hr
   · rw[Tr.run_ite,cj,decide_eq_true (by simp;omega),cond_true,Tr.bc ⟨rfl,rfl⟩,Tr.run_ite,cL,Bool.not_true,cond_false,Tr.gp,aR,show Int.ofNat 1=1 from rfl,Dq j (by omega)]
     rfl
 · refine rf (KA (n+4) pp w ls ld zs zd sz (sL w zs sz pp kd (ls+2)) H L iW (((ls+2:Nat):Int)-2)) (bk (n+4)) (ah _ _) (ai _ _) ?_
   rw[Tr.run_ite,cj,decide_eq_false (by show ¬ ((ls+2:Nat):Int)-2<((ls:Nat):Int);omega),cond_false]
   rfl
theorem I2 (hls:ls≤10) (h1:-2≤pp∧pp<ls):cd (n+5) (.fn 109) [.yld 0 1,.ptrT (some 0) (.G [.ptr 2 2 0 0]) 0] (pT pp [(0,.loop iW)]::af::gZ w ls ld zs zd sz kd [(0,.loop L)]::H)=some (.tup [],pT pp [(0,.loop iW)]::af::gZ w ls ld zs zd sz (sL w zs sz pp kd (ls+2)) [(0,.loop L)]::H):=by
 have hl:=JM n pp w ls ld zs zd sz kd H L hls h1
 have e:((ls+2:Nat):Int)-2=Int.ofNat ls:=by show _=((ls:Nat):Int);omega
 unfold G8 at hl
 rw[e] at hl
 exact gw (n:=n+4) Try.func109 rfl rfl rfl (Lb (n+4) pp w ls ld zs zd sz kd (sL w zs sz pp kd (ls+2)) H L iW) (bk (n+4)) (bf (ah _ _) BK (fun x hx=>by rw[← Tr.ab hx];exact hl)) (ai _ _) (y:=((.tup [],none),pT pp [(0,.loop iW)]::af::gZ w ls ld zs zd sz (sL w zs sz pp kd (ls+2)) [(0,.loop L)]::H)) (Tr.bc ⟨rfl,rfl⟩)
theorem N1 (hls:ls≤10) (h1:-2≤pp∧pp<ls):exec (xS (n+5) 77 94 2 4) (.rangeFunc (.tmp 55) #[56] (part Try.f77 [1,1,1,0,1,0,1,0,1,0,0]) (part Try.f77 [1,1,1,0,1,0,1,0,1,0,1])) [(3,.ptr 2 3 0 0),(7,.ptr 0 0 0 0),(55,AV.fn (Fn.func 109) [] [AV.ptrT (some 0) (Row.G [AV.ptr 2 2 0 0]) 0])] (pT pp []::af::gZ w ls ld zs zd sz kd [(0,.loop L)]::H) =
 some (.normal,[(3,.ptr 2 3 0 0),(7,.ptr 0 0 0 0),(55,AV.fn (Fn.func 109) [] [AV.ptrT (some 0) (Row.G [AV.ptr 2 2 0 0]) 0])],pT pp [(0,.dead)]::af::gZ w ls ld zs zd sz (sL w zs sz pp kd (ls+2)) [(0,.loop L)]::H) :=
 c5 (cx:=xS (n+5) 77 94 2 4) (l:=iW) (f:=.tmp 55) (ps:=#[56]) (fr:=[(3,.ptr 2 3 0 0),(7,.ptr 0 0 0 0),(55,AV.fn (Fn.func 109) [] [AV.ptrT (some 0) (Row.G [AV.ptr 2 2 0 0]) 0])]) (H:=pT pp []::af::gZ w ls ld zs zd sz kd [(0,.loop L)]::H) (g:=109) (a:=[]) (b:=[AV.ptrT (some 0) (Row.G [AV.ptr 2 2 0 0]) 0]) rfl rfl rfl (I2 n pp w ls ld zs zd sz kd H L hls h1) rfl rfl rfl
end
end Go.Eng
end
section
namespace Go.Eng
open Go.Proofs
set_option linter.unusedVariables false
set_option linter.unusedSimpArgs false
set_option maxRecDepth 100000
noncomputable def IF:aO:=[(3,.ptr 0 3 0 0),(52,AV.fn (Fn.func 109) [] [qg 0])]
noncomputable def ID:aO:=[(3,.ptr 2 3 0 0),(7,.ptr 0 0 0 0),(55,AV.fn (Fn.func 109) [] [AV.ptrT (some 0) (Row.G [AV.ptr 2 2 0 0]) 0])]
noncomputable def gu (w:Int) (ls ld:Nat) (zs zd sz kd:Nat→Int):AV:=.ptrT (some 0) (.M [.one (.int .i64 w),.one (aU 2 ls zs),.one (aU 3 ld zd),.one (.slcT none (.M [.arr .i64 sz (aI ls 2)]) 2 ls true),.arr .i64 kd 144]) 0
noncomputable def gm:bw:={ state:=.ready,pending:=none,fn:=77,nt:=94,fr:=IF,params:=[53],assign:=part Try.f77 [1,1,1,0,1,0,0],body:=part Try.f77 [1,1,1,0,1,0,1] }
theorem Od (n:Nat) (w:Int) (ls ld:Nat) (zs zd sz kd:Nat→Int) (H:ae) (L:bw) (p:Int):aH (xS n 77 94 2 4) (il aG n 0) aJ aK (part Try.f77 [1,1,1,0,1,0,0]) (hints [(3,.ptr 2 3 0 0),(52,AV.fn (Fn.func 109) [] [qg 2]),(53,.int .i64 p)]) (af::af::gZ w ls ld zs zd sz kd [(0,.loop L)]::H) =
 Tr.ok (Ex.normal,[(3,AV.ptr 2 3 0 0,none),(7,AV.ptr 0 0 0 0,none)],{ lock:=false,bs:=[(0,aj.row (Row.I .i64 [p]))] } :: af::{ lock:=false,bs:=[(0,aj.row (Row.G [AV.int .i64 w,aU 2 ls zs,aU 3 ld zd])),(0,aj.row (Row.M [aC.arr .i64 sz (aI ls 2)])),(0,aj.row (Row.M [aC.one (AV.int .i64 w),aC.one (aU 2 ls zs),aC.one (aU 3 ld zd),aC.one (AV.slc 0 1 0 0 2 ls (some ls)),aC.arr .i64 kd 144])),(0,aj.row (Row.G [AV.ptr 0 2 0 0])),(0,aj.loop L)] } :: H):=by kernel_rfl
theorem Oe (n:Nat) (w:Int) (ls ld:Nat) (zs zd sz kd kd':Nat→Int) (H:ae) (L:bw) (p:Int):aH (xS (n+1) 77 94 2 4) (il aG n 1) aJ (th aK (fun _=>true) ID (pT p []::af::gZ w ls ld zs zd sz kd [(0,.loop L)]::H) (.ok (.normal,hints ID,pT p [(0,.dead)]::af::gZ w ls ld zs zd sz kd' [(0,.loop L)]::H))) (part Try.f77 [1,1,1,0,1,0,1]) (hints [(3,.ptr 2 3 0 0),(7,.ptr 0 0 0 0)]) (pT p []::af::gZ w ls ld zs zd sz kd [(0,.loop L)]::H) =
 (fun (Z0:b6)=>((fun (Z1:aO)=>Tr.reqP (Z1=Z1∧{ lock:=false,bs:=[(0,aj.row (Row.I .i64 [p]))] } :: af::Z0::H={ lock:=false,bs:=[(0,aj.row (Row.I .i64 [p]))] } :: af::Z0::H) (Tr.ok (Ex.normal,[(3,AV.ptr 2 3 0 0,none),(7,AV.ptr 0 0 0 0,none),(55,AV.fn (Fn.func 109) [] [AV.ptrT (some 0) (Row.G [AV.ptr 2 2 0 0]) 0],none)],{ lock:=false,bs:=[(0,aj.row (Row.I .i64 [p])),(0,aj.dead)] } :: af::{ lock:=false,bs:=[(0,aj.row (Row.G [AV.int .i64 w,aU 2 ls zs,aU 3 ld zd])),(0,aj.row (Row.M [aC.arr .i64 sz (aI ls 2)])),(0,aj.row (Row.M [aC.one (AV.int .i64 w),aC.one (aU 2 ls zs),aC.one (aU 3 ld zd),aC.one (AV.slc 0 1 0 0 2 ls (some ls)),aC.arr .i64 kd' 144])),(0,aj.row (Row.G [AV.ptr 0 2 0 0])),(0,aj.loop L)] } :: H))) [(3,AV.ptr 2 3 0 0),(7,AV.ptr 0 0 0 0),(55,AV.fn (Fn.func 109) [] [AV.ptrT (some 0) (Row.G [AV.ptr 2 2 0 0]) 0])])) { lock:=false,bs:=[(0,aj.row (Row.G [AV.int .i64 w,aU 2 ls zs,aU 3 ld zd])),(0,aj.row (Row.M [aC.arr .i64 sz (aI ls 2)])),(0,aj.row (Row.M [aC.one (AV.int .i64 w),aC.one (aU 2 ls zs),aC.one (aU 3 ld zd),aC.one (AV.slc 0 1 0 0 2 ls (some ls)),aC.arr .i64 kd 144])),(0,aj.row (Row.G [AV.ptr 0 2 0 0])),(0,aj.loop L)] }:=by kernel_rfl
theorem RX (n:Nat) (w:Int) (ls ld:Nat) (zs zd sz kd:Nat→Int) (H:ae):aW Try.prog (cd (n+1)) 100000 77 Try.f77 (Kt.kt 77) (il aG n 1) (dc aJ 0 (v9 ld zd (Int.ofNat 0)) (gZ w ls ld zs zd (fun _=>0) (fun _=>0) []::H) (.ok (.normal,hints (v9 ld zd (Int.ofNat ld)++[(20,AV.bool false)]),gZ w ls ld zs zd sz (fun _=>0) []::H))) (th aK (fun _=>true) IF (gZ w ls ld zs zd sz (fun _=>0) []::H) (.ok (.normal,hints IF,gZ w ls ld zs zd sz kd [(0,.dead)]::H))) [(aa w ls zs ld zd,none)] H =
 (fun (Z0:b6)=>((fun (Z1:aO)=>((fun (Z2:aO)=>Tr.req (Gj (Int.ofNat ls) (Int.ofNat ls) 16) (Tr.req (cX (cB 0 0) (cB 0 1)) (Tr.reqP (Z1=Z1∧{ lock:=false,bs:=[(0,aj.row (Row.G [AV.int .i64 w,aU 2 ls zs,aU 3 ld zd])),(0,aj.row (Row.M [aC.arr .i64 (fun x=>Int.ofNat 0) (aI (fi (Int.ofNat ls)) 2)])),(0,aj.row (Row.M [aC.one (AV.int .i64 w),aC.one (aU 2 ls zs),aC.one (aU 3 ld zd),aC.one (AV.slc 0 1 0 0 2 (fi (Int.ofNat ls)) (some (fi (Int.ofNat ls)))),aC.arr .i64 (fun x=>Int.ofNat 0) 144])),(0,aj.row (Row.G [AV.ptr 0 2 0 0]))] } :: H={ lock:=false,bs:=[(0,aj.row (Row.G [AV.int .i64 w,aU 2 ls zs,aU 3 ld zd])),(0,aj.row (Row.M [aC.arr .i64 (fun x=>Int.ofNat 0) (aI ls 2)])),(0,aj.row (Row.M [aC.one (AV.int .i64 w),aC.one (aU 2 ls zs),aC.one (aU 3 ld zd),aC.one (AV.slc 0 1 0 0 2 ls (some ls)),aC.arr .i64 (fun x=>Int.ofNat 0) 144])),(0,aj.row (Row.G [AV.ptr 0 2 0 0]))] } :: H) (Tr.reqP (Z2=Z2∧Z0::H=Z0::H) (Tr.req (dH 0 0) (Tr.req (kO 0 (aI ls 2) 0 (aI ls 2)) (Tr.ok ((AV.ptrT (some 0) (Row.M [aC.one (AV.int .i64 w),aC.one (aU 2 ls zs),aC.one (aU 3 ld zd),aC.one (AV.slcT none (Row.M [aC.arr .i64 (nv sz 0) (aI ls 2)]) 2 ls (dH ls ls)),aC.arr .i64 kd 144]) 0,none),H)))))))) [(3,AV.ptr 0 3 0 0),(52,AV.fn (Fn.func 109) [] [AV.ptrT (some 0) (Row.G [AV.ptr 0 2 0 0]) 0])])) [(3,AV.ptr 0 3 0 0),(17,aU 3 ld zd),(18,AV.int .i64 (Int.ofNat ld)),(19,AV.int .i64 (Int.ofNat 0))])) { lock:=false,bs:=[(0,aj.row (Row.G [AV.int .i64 w,aU 2 ls zs,aU 3 ld zd])),(0,aj.row (Row.M [aC.arr .i64 sz (aI ls 2)])),(0,aj.row (Row.M [aC.one (AV.int .i64 w),aC.one (aU 2 ls zs),aC.one (aU 3 ld zd),aC.one (AV.slc 0 1 0 0 2 ls (some ls)),aC.arr .i64 (fun x=>Int.ofNat 0) 144])),(0,aj.row (Row.G [AV.ptr 0 2 0 0]))] }:=by kernel_rfl
def rK (w:Int) (ls:Nat) (zs sz:Nat→Int):Nat→Nat→Int
 | 0=>fun _=>0
 | j+1=>sL w zs sz ((j:Int)-2) (rK w ls zs sz j) (ls+2)
noncomputable def gO (w:Int) (ls ld:Nat) (zs zd sz kd:Nat→Int) (H:ae) (L:bw):ae:=af::gZ w ls ld zs zd sz kd [(0,.loop L)]::H
noncomputable def G9 (j:Nat):aO:=[(0,.yld 1 4),(1,qg 1),(3,.int .i64 ((j:Int)-2))]
theorem NU:cM (part Try.f77 [1,1,1,0,1,0,1])=[(.tmp 55,#[56],part Try.f77 [1,1,1,0,1,0,1,0,1,0,0],part Try.f77 [1,1,1,0,1,0,1,0,1,0,1])]:=by kernel_rfl
theorem NW:cM (aL Try.f77)=[(.tmp 52,#[53],part Try.f77 [1,1,1,0,1,0,0],part Try.f77 [1,1,1,0,1,0,1])]:=by kernel_rfl
theorem PB:∀ b,(0,b) ∈ av (aL Try.f77)→b=.loop (part Try.f77 [1,1,0,1,0,0]):=by
 have:av (aL Try.f77)=[(0,.loop (part Try.f77 [1,1,0,1,0,0])),(1,part Try.f77 [1,1,0,1,0,0,1,1,0,0]),(2,part Try.f77 [1,1,1,0,1,0])]:=by kernel_rfl
 intro b hb;rw[this] at hb;simpa using hb
section
variable (n:Nat) (w:Int) (ls ld:Nat) (zs zd sz kd:Nat→Int) (H:ae)
theorem NY (hls:ls≤10) (p:Int) (h1:-2≤p∧p<ls):cd (n+6) (.round 1 4) [.int .i64 p] (gO w ls ld zs zd sz kd H gm)=some (.bool true,gO w ls ld zs zd sz (sL w zs sz p kd (ls+2)) H gm):=by
 have ha:exec (xS (n+5) 77 94 2 4) (part Try.f77 [1,1,1,0,1,0,0]) [(3,.ptr 2 3 0 0),(52,AV.fn (Fn.func 109) [] [qg 2]),(53,.int .i64 p)] (af::af::gZ w ls ld zs zd sz kd [(0,.loop gm)]::H)=some (.normal,[(3,.ptr 2 3 0 0),(7,.ptr 0 0 0 0)],pT p []::af::gZ w ls ld zs zd sz kd [(0,.loop gm)]::H):=by
  have:=bK (cx:=xS (n+5) 77 94 2 4) (bk (n+5)) (part Try.f77 [1,1,1,0,1,0,0]) (ah _ _) (ai _ _) (hints [(3,.ptr 2 3 0 0),(52,AV.fn (Fn.func 109) [] [qg 2]),(53,.int .i64 p)]) (af::af::gZ w ls ld zs zd sz kd [(0,.loop gm)]::H) (.normal,hints [(3,.ptr 2 3 0 0),(7,.ptr 0 0 0 0)],pT p []::af::gZ w ls ld zs zd sz kd [(0,.loop gm)]::H) (by rw[Od];rfl)
  exact this
 have hb:exec (xS (n+5) 77 94 2 4) (part Try.f77 [1,1,1,0,1,0,1]) [(3,.ptr 2 3 0 0),(7,.ptr 0 0 0 0)] (pT p []::af::gZ w ls ld zs zd sz kd [(0,.loop { gm with state:=.busy })]::H)=some (.normal,ID,pT p [(0,.dead)]::af::gZ w ls ld zs zd sz (sL w zs sz p kd (ls+2)) [(0,.loop { gm with state:=.busy })]::H):=by
  have:=bK (cx:=xS (n+5) 77 94 2 4) (bU (n+4) 1) (part Try.f77 [1,1,1,0,1,0,1]) (ah _ _) (eX (ai _ _) (tf:=fun _=>true) (fr0:=ID) (H0:=pT p []::af::gZ w ls ld zs zd sz kd [(0,.loop { gm with state:=.busy })]::H) (u:=.ok (.normal,hints ID,pT p [(0,.dead)]::af::gZ w ls ld zs zd sz (sL w zs sz p kd (ls+2)) [(0,.loop { gm with state:=.busy })]::H)) (fun f ps a b _ hm x hx=>by
   rw[NU] at hm
   simp only[List.mem_cons,Prod.mk.injEq,List.not_mem_nil,or_false] at hm
   obtain ⟨rfl,rfl,rfl,rfl⟩:=hm
   rw[← Tr.ab hx]
   exact N1 n p w ls ld zs zd sz kd H { gm with state:=.busy } hls h1)) (hints [(3,.ptr 2 3 0 0),(7,.ptr 0 0 0 0)]) (pT p []::af::gZ w ls ld zs zd sz kd [(0,.loop { gm with state:=.busy })]::H) (.normal,hints ID,pT p [(0,.dead)]::af::gZ w ls ld zs zd sz (sL w zs sz p kd (ls+2)) [(0,.loop { gm with state:=.busy })]::H)
   (by rw[show n+5=n+4+1 from rfl,Oe,Tr.bc ⟨rfl,rfl⟩];rfl)
  exact this
 exact dE (n:=n+5) (l:=gm) (l1:=gm) (l2:={ gm with state:=.busy }) rfl rfl rfl rfl ha rfl rfl hb rfl
theorem JN (hls:ls≤10):exec (bF (n+6) 109 18) (.block 0 (.loop (part Try.f109 [1,0,0]))) (G9 0) (gO w ls ld zs zd sz (fun _=>0) H gm)=some (.normal,G9 (ls+2)++[(11,.bool false)],gO w ls ld zs zd sz (rK w ls zs sz (ls+2)) H gm):=by
 refine Jw 0 G9 (fun j=>gO w ls ld zs zd sz (rK w ls zs sz j) H gm) (ls+2) (.exit 0,hints (G9 (ls+2))++[(11,.bool false,some 1)],gO w ls ld zs zd sz (rK w ls zs sz (ls+2)) H gm) (by omega) (fun j hj=>?_) ⟨?_,rfl⟩
 · have hr:=NY n w ls ld zs zd sz (rK w ls zs sz j) H hls ((j:Int)-2) ⟨by omega,by omega⟩
   refine ⟨G9 (j+1),gO w ls ld zs zd sz (rK w ls zs sz (j+1)) H gm,rf (Kz (n+6) w ls ld zs zd sz (rK w ls zs sz j) (rK w ls zs sz (j+1)) H gm ((j:Int)-2)) (vf (bk (n+6)) (fun x hx=>?_)) (ah _ _) (ai _ _) (x:=(.normal,hints (G9 (j+1)),gO w ls ld zs zd sz (rK w ls zs sz (j+1)) H gm)) ?_,rfl,rfl⟩
   · rw[← Tr.ab hx];exact hr
   · rw[Tr.run_ite,cj,decide_eq_true (by simp;omega),cond_true,Tr.bc ⟨rfl,rfl⟩,Tr.run_ite,cL,Bool.not_true,cond_false,Tr.gp,aR,show Int.ofNat 1=1 from rfl,Dq j (by omega)]
     rfl
 · refine rf (KB (n+6) w ls ld zs zd sz (rK w ls zs sz (ls+2)) H gm (((ls+2:Nat):Int)-2)) (bk (n+6)) (ah _ _) (ai _ _) ?_
   rw[Tr.run_ite,cj,decide_eq_false (by show ¬ ((ls+2:Nat):Int)-2<((ls:Nat):Int);omega),cond_false]
   rfl
theorem I4 (hls:ls≤10):cd (n+7) (.fn 109) [.yld 0 4,qg 0] (gZ w ls ld zs zd sz (fun _=>0) [(0,.loop gm)]::H)=some (.tup [],gZ w ls ld zs zd sz (rK w ls zs sz (ls+2)) [(0,.loop gm)]::H):=by
 have hl:=JN n w ls ld zs zd sz H hls
 have e:((ls+2:Nat):Int)-2=Int.ofNat ls:=by show _=((ls:Nat):Int);omega
 unfold G9 at hl
 rw[e] at hl
 exact gw (n:=n+6) Try.func109 rfl rfl rfl (Ld (n+6) w ls ld zs zd sz (fun _=>0) (rK w ls zs sz (ls+2)) H gm) (bk (n+6)) (bf (ah _ _) BK (fun x hx=>by rw[← Tr.ab hx];exact hl)) (ai _ _) (y:=((.tup [],none),gZ w ls ld zs zd sz (rK w ls zs sz (ls+2)) [(0,.loop gm)]::H)) (Tr.bc ⟨rfl,rfl⟩)
theorem N2 (hls:ls≤10):exec (bF (n+7) 77 94) (.rangeFunc (.tmp 52) #[53] (part Try.f77 [1,1,1,0,1,0,0]) (part Try.f77 [1,1,1,0,1,0,1])) IF (gZ w ls ld zs zd sz (fun _=>0) []::H) =
 some (.normal,IF,gZ w ls ld zs zd sz (rK w ls zs sz (ls+2)) [(0,.dead)]::H) :=
 c5 (cx:=bF (n+7) 77 94) (l:=gm) (f:=.tmp 52) (ps:=#[53]) (fr:=IF) (H:=gZ w ls ld zs zd sz (fun _=>0) []::H) (g:=109) (a:=[]) (b:=[qg 0]) rfl rfl rfl (I4 n w ls ld zs zd sz H hls) rfl rfl rfl
theorem Pk (hls:ls≤10) (hld:ld≤40) (hd:∀ j,j<ld→0≤zd (j*3)∧zd (j*3)<ls):cd (n+8) (.fn 77) [aa w ls zs ld zd] H=some (gu w ls ld zs zd (ft zd ld) (rK w ls zs (ft zd ld) (ls+2)),H):=by
 refine gw (n:=n+7) Try.func77 rfl rfl rfl (RX (n+6) w ls ld zs zd (ft zd ld) (rK w ls zs (ft zd ld) (ls+2)) H) (bU (n+6) 1) (bf (ah _ _) PB (fun x hx=>by rw[← Tr.ab hx];exact Rv (n+7) w ls ld zs zd (fun _=>0) H hld hd)) (eX (ai _ _) (fun f ps a b _ hm x hx=>?_)) (y:=((gu w ls ld zs zd (ft zd ld) (rK w ls zs (ft zd ld) (ls+2)),none),H)) ?_
 · rw[NW] at hm
   simp only[List.mem_cons,Prod.mk.injEq,List.not_mem_nil,or_false] at hm
   obtain ⟨rfl,rfl,rfl,rfl⟩:=hm
   rw[← Tr.ab hx]
   exact N2 n w ls ld zs zd (ft zd ld) H hls
 · have em:Gj (Int.ofNat ls) (Int.ofNat ls) 16=true:=by
    rw[yu,decide_eq_true_eq]
    have:room=2 ^ 46:=rfl
    have e:(Int.ofNat ls).toNat=ls:=rfl
    rw[e]
    refine ⟨by simp,by simp,?_,?_⟩<;>omega
   rw[Tr.b8,em,cond_true,ir,show (Int.ofNat ls).toNat=ls from rfl,Tr.b8,FT,cond_true,Tr.bc ⟨rfl,rfl⟩,Tr.bc ⟨rfl,rfl⟩,Tr.b8,jL,cond_true,Tr.b8,fH,decide_eq_true (by omega),cond_true,Tr.gp,hJ,jL]
   rfl
end
end Go.Eng
end
section
namespace Go.Eng
open Go.Proofs
set_option linter.unusedVariables false
set_option linter.unusedSimpArgs false
set_option maxRecDepth 100000
def Lo (B:AV) (side:Prop) (t:AV):List AV→Option (Prop×AV)
 | [b]=>some (b=B∧side,t)
 | _=>none
def gS (B:AV) (s:Int) (a b e:Int):List AV→Option (Prop×AV)
 | [c,.int .i64 k]=>some (c=B∧k=s,.tup [.agg (.I .i64 [a,b]),.int .i64 e])
 | _=>none
def Ej:List AV→Option (Prop×AV)
 | []=>some (True,.bool true)
 | _=>none
theorem Ao (zd:Nat→Int) (ld s:Nat) (hd:∀ j,j<ld→0≤zd (j*3)):∀ j,j≤ld→ft zd j (s*2)=im zd (upto (jb false zd) ld) s j∧ft zd j (s*2+1)=im zd (upto (jb true zd) ld) s j
 | 0,_=>⟨rfl,rfl⟩
 | j + 1,hj=>by
   obtain ⟨h1,h2⟩:=Ao zd ld s hd j (by omega)
   have h0:=hd j (by omega)
   have u:∀ h,upto (jb h zd) ld j=jb h zd j:=fun h=>by unfold upto;rw[if_pos (by omega)]
   simp only[ft,im,u]
   by_cases e:zd (j*3)=s
   · have et:(zd (j*3)).toNat=s:=by omega
     rw[if_pos e,if_pos e,if_neg (by omega),if_pos (by omega),if_pos (by omega),et,h1,h2]
     exact ⟨rfl,rfl⟩
   · have et:(zd (j*3)).toNat≠s:=by omega
     rw[if_neg e,if_neg e,if_neg (by omega),if_neg (by omega),if_neg (by omega),if_neg (by omega)]
     exact ⟨h1,h2⟩
theorem eY {w:Int} {ls ld:Nat} {zs zd:Nat→Int} (h:bN w ls ld zs zd=0):ls≤10∧ld≤40∧∀ j,j<ld→0≤zd (j*3)∧zd (j*3)<ls:=by
 have h1:=za w ls ld zs zd h
 refine ⟨h1.1,h1.2,fun j hj=>?_⟩
 have hb:fF ls zd j=false:=by
  cases hq:fF ls zd j with
  | false=>rfl
  | true =>
    have he:bD (fF ls zd) ld=true:=(bV _ _).2 ⟨j,hj,hq⟩
    unfold bN at h
    rw[he] at h
    generalize bD (kY w zs) ls=b1 at h
    generalize bD (fun i=>bD (qi zs i) i) ls=b2 at h
    by_cases e1:w<2<;>by_cases e2:1000<w<;>by_cases e3:10<ls<;>by_cases e4:40<ld<;>cases b1<;>cases b2<;>simp[e1,e2,e3,e4] at h
 simp only[fF,Bool.or_eq_false_iff,decide_eq_false_iff_not] at hb
 omega
section
variable (n:Nat) (w:Int) (ls ld:Nat) (zs zd:Nat→Int) (H:ae) (s:Int)
theorem Jg (k:Nat) (t:lR) (ht:t.Ok (cd (n+11+k))):(b7 t 19 (vB (aa w ls zs ld zd) (bN w ls ld zs zd))).Ok (cd (n+11+k)):=by
 refine bI ht (fun args p v h hp H=>?_)
 unfold vB at h
 split at h
 · simp only[nP] at h
   obtain ⟨rfl,rfl⟩:=h
   rw[hp,show n+11+k=n+k+11 by omega]
   exact PI (n+k) w ls ld zs zd H
 · cases h
theorem PH:cd (n+1) (.fn 16) [] H=some (.bool true,H):=rfl
end
section
variable (n:Nat) (w:Int) (ls ld:Nat) (zs zd:Nat→Int) (H:ae) (s:Int)
end
end Go.Eng
end
