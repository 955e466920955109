/- Drop: group: its rounds. -/
import Derived.Test.YtjmjkhpfipglcaaV7Ke
section
namespace Go.Eng
open Go.Proofs
set_option linter.unusedVariables false
set_option linter.unusedSimpArgs false
set_option maxRecDepth 100000
noncomputable def n9 (tk:Nat) (w:Int) (ls ld:Nat) (zs zd sz kd:Nat→Int) (sure:Bool) (i:Int):aO:=[(0,a9 (tk+1) w ls ld zs zd sz kd),(2,.bool sure),(4,.ptr 0 0 0 0),(7,.ptr 0 1 0 0),(8,.ptr 0 3 0 0),(9,.int .i64 i)]
noncomputable def gg (tk:Nat) (w:Int) (ls ld:Nat) (zs zd sz kd:Nat→Int) (sure:Bool) (i cur:Int):aO:=[(0,a9 (tk+1) w ls ld zs zd sz kd),(2,.bool sure),(4,.ptr 0 0 0 0),(7,.ptr 0 1 0 0),(8,.ptr 0 3 0 0),(9,.int .i64 i),(30,.fn (.func 110) [] (gv (tk+1) w ls ld zs zd sz kd cur sure))]
noncomputable def dh (p:Int) (mk:Nat→Int) (s:AV) (rest:List (Nat×aj)):b6:=⟨false,(0,.row (.I .i64 [p]))::(0,.row (.M [.arr .i64 mk 12]))::(0,.row (.I .i64 [p]))::(0,.row (.G [s]))::rest⟩
noncomputable def pI (tk:Nat) (w:Int) (ls ld:Nat) (zs zd sz kd:Nat→Int) (sure:Bool) (i q cur:Int):aO:=[(0,a9 (tk+5) w ls ld zs zd sz kd),(2,.bool sure),(4,.ptr 4 0 0 0),(7,.ptr 4 1 0 0),(8,.ptr 4 3 0 0),(9,.int .i64 i),(30,.fn (.func 110) [] [.ptrT (some 4) (.G [a9 (tk+1) w ls ld zs zd sz kd]) 0,.ptrT none (.I .i64 [cur]) 0,.ptrT (some 4) (.G [.bool sure]) 0]),(31,.int .i64 q)]
noncomputable def jT (q:Int):aO:=[(4,.ptr 4 0 0 0),(7,.ptr 4 1 0 0),(8,.ptr 4 3 0 0),(10,.int .i64 q)]
noncomputable def lh (n R:Nat):Cx:=⟨Try.prog,cd n,100000,88,56,Kt.kt 88,some (4,R)⟩
noncomputable def z4:Code:=part Try.f88 [1,1,1,1,1,0,1,0,0,1,0,0,1,0,0]
noncomputable def uY:Code:=part Try.f88 [1,1,1,1,1,0,1,0,0,1,0,0,1,0,1]
noncomputable def bJ (tk:Nat) (w:Int) (ls ld:Nat) (zs zd sz kd:Nat→Int) (sure:Bool) (i cur:Int):bw:={ state:=.ready,pending:=none,fn:=88,nt:=56,fr:=gg tk w ls ld zs zd sz kd sure i cur,params:=[31],assign:=z4,body:=uY }
theorem Oi (n:Nat) (mk:Nat→Int) (H:ae) (p q:Int) (L:aj) (L0:bw):aH (lh n 4) (il aG n 0) aJ aK uY (hints (jT q)) (af::af::af::aB 4 [(0,.loop L0)]::dh p mk (.slc 0 2 0 0 1 1 (some 1)) [(0,L)]::H) =
 (fun (Z0:b6)=>((fun (Z1:b6)=>((fun (Z2:a8)=>Tr.ite (aD (aF q p)) (Tr.req (br (ay .i64 q (Int.ofNat 2)) 12) (Tr.req (dH 0 0) (Tr.req (bt (al 0 (ay .i64 q (Int.ofNat 2)) 1) 12) (Tr.ite (aF (mk (al 0 (ay .i64 q (Int.ofNat 2)) 1)) (Int.ofNat 0)) (Tr.req (br (ay .i64 q (Int.ofNat 2)) 12) (Tr.req (dH 0 0) (Tr.req (bt (al 0 (ay .i64 q (Int.ofNat 2)) 1) 12) (Tr.req (gx 1 1 8) (Tr.req (cB 1 1) (Tr.ite (bt 1 (au 1 1)) (Tr.req (cB 1 1) (Tr.ok (Ex.normal,[],{ lock:=false,bs:=[(0,aj.row (Row.I .i64 [q])),(0,aj.row (Row.I .i64 [q])),(0,aj.dead)] } :: af::af::Z1::{ lock:=false,bs:=[(0,aj.row (Row.I .i64 [p])),(0,aj.row (Row.M [aC.arr .i64 (fO mk (al 0 (ay .i64 q (Int.ofNat 2)) 1) (Int.ofNat 1)) 12])),(0,aj.row (Row.I .i64 [p])),(0,aj.row (Row.G [AV.slc 0 5 0 0 1 (au 1 1) none])),(0,L),(0,aj.row (Row.M [aC.arr .i64 (bE [p,q]) 2]))] } :: H))) Tr.bad)))))) (Tr.ok (Ex.normal,Z2,{ lock:=false,bs:=[(0,aj.row (Row.I .i64 [q]))] } :: af::af::Z1::Z0::H)))))) (Tr.ok (Ex.normal,Z2,{ lock:=false,bs:=[(0,aj.row (Row.I .i64 [q]))] } :: af::af::Z1::Z0::H))) [(7,AV.ptr 4 1 0 0,none),(8,AV.ptr 4 3 0 0,none),(10,AV.int .i64 q,none),(45,AV.bool false,some 1)])) { lock:=false,bs:=[(0,aj.row (Row.G [AV.yld 1 4])),(0,aj.loop L0)] })) { lock:=false,bs:=[(0,aj.row (Row.I .i64 [p])),(0,aj.row (Row.M [aC.arr .i64 mk 12])),(0,aj.row (Row.I .i64 [p])),(0,aj.row (Row.G [AV.slc 0 2 0 0 1 1 (some 1)])),(0,L)] }:=by kernel_rfl
theorem Oj (n:Nat) (mk z:Nat→Int) (H:ae) (p q:Int) (L:aj) (L0:bw) (v m:Nat):aH (lh n 4) (il aG n 0) aJ aK uY (hints (jT q)) (af::af::af::aB 4 [(0,.loop L0)]::dh p mk (.slc 0 5 v 0 1 m none) [(0,L),(v,.row (.M [.arr .i64 z m]))]::H) =
 (fun (Z0:b6)=>((fun (Z1:b6)=>((fun (Z2:a8)=>Tr.ite (aD (aF q p)) (Tr.req (br (ay .i64 q (Int.ofNat 2)) 12) (Tr.req (dH 0 0) (Tr.req (bt (al 0 (ay .i64 q (Int.ofNat 2)) 1) 12) (Tr.ite (aF (mk (al 0 (ay .i64 q (Int.ofNat 2)) 1)) (Int.ofNat 0)) (Tr.req (br (ay .i64 q (Int.ofNat 2)) 12) (Tr.req (dH 0 0) (Tr.req (bt (al 0 (ay .i64 q (Int.ofNat 2)) 1) 12) (Tr.req (gx m 1 8) (Tr.req (cB 1 1) (Tr.req (dH v v) (Tr.req (dH (au 0 m) m) (Tr.ok (Ex.normal,[],{ lock:=false,bs:=[(0,aj.row (Row.I .i64 [q])),(0,aj.row (Row.I .i64 [q]))] } :: af::af::Z1::{ lock:=false,bs:=[(0,aj.row (Row.I .i64 [p])),(0,aj.row (Row.M [aC.arr .i64 (fO mk (al 0 (ay .i64 q (Int.ofNat 2)) 1) (Int.ofNat 1)) 12])),(0,aj.row (Row.I .i64 [p])),(0,aj.row (Row.G [AV.slc 0 5 (Nat.succ v) 0 1 (au m 1) none])),(0,L),(Nat.succ v,aj.row (Row.M [aC.arr .i64 (qe (nv z 0) m (bE [q])) (au m 1)]))] } :: H))))))))) (Tr.ok (Ex.normal,Z2,{ lock:=false,bs:=[(0,aj.row (Row.I .i64 [q]))] } :: af::af::Z1::Z0::H)))))) (Tr.ok (Ex.normal,Z2,{ lock:=false,bs:=[(0,aj.row (Row.I .i64 [q]))] } :: af::af::Z1::Z0::H))) [(7,AV.ptr 4 1 0 0,none),(8,AV.ptr 4 3 0 0,none),(10,AV.int .i64 q,none),(45,AV.bool false,some 1)])) { lock:=false,bs:=[(0,aj.row (Row.G [AV.yld 1 4])),(0,aj.loop L0)] })) { lock:=false,bs:=[(0,aj.row (Row.I .i64 [p])),(0,aj.row (Row.M [aC.arr .i64 mk 12])),(0,aj.row (Row.I .i64 [p])),(0,aj.row (Row.G [AV.slc 0 5 v 0 1 m none])),(0,L),(v,aj.row (Row.M [aC.arr .i64 z m]))] }:=by kernel_rfl
theorem Ol (n:Nat) (mk z:Nat→Int) (H:ae) (p q:Int) (L:aj) (L0:bw) (v m:Nat):aH (lh n 5) (il aG n 0) aJ aK uY (hints (jT q)) (af::af::af::aB 5 [(0,.loop L0)]::dh p mk (.slc 0 4 v 0 1 m none) [(v,.row (.M [.arr .i64 z m])),(0,L)]::H) =
 (fun (Z0:b6)=>((fun (Z1:b6)=>((fun (Z2:a8)=>Tr.ite (aD (aF q p)) (Tr.req (br (ay .i64 q (Int.ofNat 2)) 12) (Tr.req (dH 0 0) (Tr.req (bt (al 0 (ay .i64 q (Int.ofNat 2)) 1) 12) (Tr.ite (aF (mk (al 0 (ay .i64 q (Int.ofNat 2)) 1)) (Int.ofNat 0)) (Tr.req (br (ay .i64 q (Int.ofNat 2)) 12) (Tr.req (dH 0 0) (Tr.req (bt (al 0 (ay .i64 q (Int.ofNat 2)) 1) 12) (Tr.req (gx m 1 8) (Tr.req (cB 1 1) (Tr.req (dH v v) (Tr.req (dH (au 0 m) m) (Tr.ok (Ex.normal,[],{ lock:=false,bs:=[(0,aj.row (Row.I .i64 [q])),(0,aj.row (Row.I .i64 [q]))] } :: af::af::Z1::{ lock:=false,bs:=[(0,aj.row (Row.I .i64 [p])),(0,aj.row (Row.M [aC.arr .i64 (fO mk (al 0 (ay .i64 q (Int.ofNat 2)) 1) (Int.ofNat 1)) 12])),(0,aj.row (Row.I .i64 [p])),(0,aj.row (Row.G [AV.slc 0 4 (Nat.succ v) 0 1 (au m 1) none])),(Nat.succ v,aj.row (Row.M [aC.arr .i64 (qe (nv z 0) m (bE [q])) (au m 1)])),(0,L)] } :: H))))))))) (Tr.ok (Ex.normal,Z2,{ lock:=false,bs:=[(0,aj.row (Row.I .i64 [q]))] } :: af::af::Z1::Z0::H)))))) (Tr.ok (Ex.normal,Z2,{ lock:=false,bs:=[(0,aj.row (Row.I .i64 [q]))] } :: af::af::Z1::Z0::H))) [(7,AV.ptr 4 1 0 0,none),(8,AV.ptr 4 3 0 0,none),(10,AV.int .i64 q,none),(45,AV.bool false,some 1)])) { lock:=false,bs:=[(0,aj.row (Row.G [AV.yld 1 5])),(0,aj.loop L0)] })) { lock:=false,bs:=[(0,aj.row (Row.I .i64 [p])),(0,aj.row (Row.M [aC.arr .i64 mk 12])),(0,aj.row (Row.I .i64 [p])),(0,aj.row (Row.G [AV.slc 0 4 v 0 1 m none])),(v,aj.row (Row.M [aC.arr .i64 z m])),(0,L)] }:=by kernel_rfl
theorem K2 (n:Nat) (tk:Nat) (w:Int) (ls ld:Nat) (zs zd sz kd mk:Nat→Int) (H:ae) (p cur i:Int) (sure:Bool) (L1:b6):aH (bF (n+5) 88 56) (il aG (n+4) 1) aJ (th aK (fun _=>true) (gg tk w ls ld zs zd sz kd sure i cur) (dh p mk (.slc 0 2 0 0 1 1 (some 1)) []::H) (.ok (.normal,hints (gg tk w ls ld zs zd sz kd sure i cur),L1::H))) (part Try.f88 [1,1,1,1,1,0,1,0,0]) (hints (n9 tk w ls ld zs zd sz kd sure i)) (dh p mk (.slc 0 2 0 0 1 1 (some 1)) []::H) =
 (fun (Z0:Row)=>((fun (Z1:b6)=>Tr.ite (bA i (Int.ofNat 1)) (Tr.req (br i 1) (Tr.req (dH 0 0) (Tr.req (bt (al 0 i 1) (A7 [p])) (Tr.reqP ([(0,AV.ptrT (some (Nat.succ tk)) Z0 0),(2,AV.bool sure),(4,AV.ptr 0 0 0 0),(7,AV.ptr 0 1 0 0),(8,AV.ptr 0 3 0 0),(9,AV.int .i64 i),(30,AV.fn (Fn.func 110) [] [AV.ptrT (some 0) (Row.G [AV.ptrT (some (Nat.succ tk)) Z0 0]) 0,AV.ptrT none (Row.I .i64 [bE [p] (al 0 i 1)]) 0,AV.ptrT (some 0) (Row.G [AV.bool sure]) 0])]=[(0,AV.ptrT (some (Nat.succ tk)) Z0 0),(2,AV.bool sure),(4,AV.ptr 0 0 0 0),(7,AV.ptr 0 1 0 0),(8,AV.ptr 0 3 0 0),(9,AV.int .i64 i),(30,AV.fn (Fn.func 110) [] [AV.ptrT (some 0) (Row.G [AV.ptrT (some (Nat.succ tk)) Z0 0]) 0,AV.ptrT none (Row.I .i64 [cur]) 0,AV.ptrT (some 0) (Row.G [AV.bool sure]) 0])]∧Z1::H=Z1::H) (Tr.ok (Ex.normal,[(0,AV.ptrT (some (Nat.succ tk)) Z0 0,none),(2,AV.bool sure,none),(4,AV.ptr 0 0 0 0,none),(7,AV.ptr 0 1 0 0,none),(8,AV.ptr 0 3 0 0,none),(9,AV.int .i64 (ay .i64 i (Int.ofNat 1)),none)],L1::H)))))) (Tr.ok (Ex.exit 0,[(0,AV.ptrT (some (Nat.succ tk)) Z0 0,none),(2,AV.bool sure,none),(4,AV.ptr 0 0 0 0,none),(7,AV.ptr 0 1 0 0,none),(8,AV.ptr 0 3 0 0,none),(9,AV.int .i64 i,none),(21,AV.bool false,some 1)],Z1::H))) { lock:=false,bs:=[(0,aj.row (Row.I .i64 [p])),(0,aj.row (Row.M [aC.arr .i64 mk 12])),(0,aj.row (Row.I .i64 [p])),(0,aj.row (Row.G [AV.slc 0 2 0 0 1 1 (some 1)]))] })) (Row.M [aC.one (AV.int .i64 w),aC.one (aU 2 ls zs),aC.one (aU 3 ld zd),aC.one (.slcT none (.M [.arr .i64 sz (aI ls 2)]) 2 ls true),aC.arr .i64 kd 144]):=by kernel_rfl
theorem K3 (n:Nat) (tk:Nat) (w:Int) (ls ld:Nat) (zs zd sz kd mk z:Nat→Int) (H:ae) (p cur i:Int) (sure:Bool) (v m:Nat) (L1:b6):aH (bF (n+5) 88 56) (il aG (n+4) 1) aJ (th aK (fun _=>true) (gg tk w ls ld zs zd sz kd sure i cur) (dh p mk (.slc 0 4 v 0 1 m none) [(v,.row (.M [.arr .i64 z m]))]::H) (.ok (.normal,hints (gg tk w ls ld zs zd sz kd sure i cur),L1::H))) (part Try.f88 [1,1,1,1,1,0,1,0,0]) (hints (n9 tk w ls ld zs zd sz kd sure i)) (dh p mk (.slc 0 4 v 0 1 m none) [(v,.row (.M [.arr .i64 z m]))]::H) =
 (fun (Z0:Row)=>((fun (Z1:b6)=>Tr.ite (bA i (Int.ofNat m)) (Tr.req (br i m) (Tr.req (dH v v) (Tr.req (bt (al 0 i 1) m) (Tr.reqP ([(0,AV.ptrT (some (Nat.succ tk)) Z0 0),(2,AV.bool sure),(4,AV.ptr 0 0 0 0),(7,AV.ptr 0 1 0 0),(8,AV.ptr 0 3 0 0),(9,AV.int .i64 i),(30,AV.fn (Fn.func 110) [] [AV.ptrT (some 0) (Row.G [AV.ptrT (some (Nat.succ tk)) Z0 0]) 0,AV.ptrT none (Row.I .i64 [z (al 0 i 1)]) 0,AV.ptrT (some 0) (Row.G [AV.bool sure]) 0])]=[(0,AV.ptrT (some (Nat.succ tk)) Z0 0),(2,AV.bool sure),(4,AV.ptr 0 0 0 0),(7,AV.ptr 0 1 0 0),(8,AV.ptr 0 3 0 0),(9,AV.int .i64 i),(30,AV.fn (Fn.func 110) [] [AV.ptrT (some 0) (Row.G [AV.ptrT (some (Nat.succ tk)) Z0 0]) 0,AV.ptrT none (Row.I .i64 [cur]) 0,AV.ptrT (some 0) (Row.G [AV.bool sure]) 0])]∧Z1::H=Z1::H) (Tr.ok (Ex.normal,[(0,AV.ptrT (some (Nat.succ tk)) Z0 0,none),(2,AV.bool sure,none),(4,AV.ptr 0 0 0 0,none),(7,AV.ptr 0 1 0 0,none),(8,AV.ptr 0 3 0 0,none),(9,AV.int .i64 (ay .i64 i (Int.ofNat 1)),none)],L1::H)))))) (Tr.ok (Ex.exit 0,[(0,AV.ptrT (some (Nat.succ tk)) Z0 0,none),(2,AV.bool sure,none),(4,AV.ptr 0 0 0 0,none),(7,AV.ptr 0 1 0 0,none),(8,AV.ptr 0 3 0 0,none),(9,AV.int .i64 i,none),(21,AV.bool false,some 1)],Z1::H))) { lock:=false,bs:=[(0,aj.row (Row.I .i64 [p])),(0,aj.row (Row.M [aC.arr .i64 mk 12])),(0,aj.row (Row.I .i64 [p])),(0,aj.row (Row.G [AV.slc 0 4 v 0 1 m none])),(v,aj.row (Row.M [aC.arr .i64 z m]))] })) (Row.M [aC.one (AV.int .i64 w),aC.one (aU 2 ls zs),aC.one (aU 3 ld zd),aC.one (.slcT none (.M [.arr .i64 sz (aI ls 2)]) 2 ls true),aC.arr .i64 kd 144]):=by kernel_rfl
def wi (p q:Int) (mk:Nat→Int):Bool:=decide (q≠p) && decide (mk (q+2).toNat=0)
noncomputable def dO (p q:Int) (s:(Nat→Int)×List Int):(Nat→Int)×List Int:=if wi p q s.1=true then (fO s.1 (q+2).toNat 1,s.2++[q]) else s
noncomputable def cO (hl:Nat→Bool) (p:Int) (s:(Nat→Int)×List Int):Nat→(Nat→Int)×List Int
 | 0=>s
 | j+1=>if hl j=true then dO p ((j:Int)-2) (cO hl p s j) else cO hl p s j
noncomputable def fI (p:Int) (B:aj) (s:(Nat→Int)×List Int):b6:=match s.2 with
 | []=>dh p s.1 (.slc 0 2 0 0 1 1 (some 1)) [(0,B)]
 | y::r=>dh p s.1 (.slc 0 5 r.length 0 1 (r.length+2) none) [(0,B),(r.length,.row (.M [.arr .i64 (bE (p::y::r)) (r.length+2)]))]
noncomputable def fJ (p:Int) (B:aj) (s:(Nat→Int)×List Int):b6:=match s.2 with
 | []=>dh p s.1 (.slc 0 2 0 0 1 1 (some 1)) [(0,B)]
 | y::r=>dh p s.1 (.slc 0 4 r.length 0 1 (r.length+2) none) [(r.length,.row (.M [.arr .i64 (bE (p::y::r)) (r.length+2)])),(0,B)]
section
variable (n:Nat) (tk:Nat) (w:Int) (ls ld:Nat) (zs zd sz kd:Nat→Int) (H:ae) (p cur i:Int) (sure:Bool)
theorem Gz (q:Int) (L0:b6) (G:ae):exec (lh n 4) z4 (pI tk w ls ld zs zd sz kd sure i q cur) (af::af::af::L0::G)=some (.normal,jT q,af::af::af::L0::G):=by
 have e:aH (lh n 4) (il aG n 0) aJ aK z4 (hints (pI tk w ls ld zs zd sz kd sure i q cur)) (af::af::af::L0::G)=.ok (.normal,hints (jT q),af::af::af::L0::G):=by kernel_rfl
 have:=bK (cx:=lh n 4) (bk n) z4 (ah _ _) (ai _ _) (hints (pI tk w ls ld zs zd sz kd sure i q cur)) (af::af::af::L0::G) _ (by rw[e];rfl)
 rw[aw] at this
 simp only[dg.st,aw] at this
 exact this
theorem GA (q:Int) (L0:b6) (G:ae):exec (lh n 5) z4 (pI tk w ls ld zs zd sz kd sure i q cur) (af::af::af::L0::G)=some (.normal,jT q,af::af::af::L0::G):=by
 have e:aH (lh n 5) (il aG n 0) aJ aK z4 (hints (pI tk w ls ld zs zd sz kd sure i q cur)) (af::af::af::L0::G)=.ok (.normal,hints (jT q),af::af::af::L0::G):=by kernel_rfl
 have:=bK (cx:=lh n 5) (bk n) z4 (ah _ _) (ai _ _) (hints (pI tk w ls ld zs zd sz kd sure i q cur)) (af::af::af::L0::G) _ (by rw[e];rfl)
 rw[aw] at this
 simp only[dg.st,aw] at this
 exact this
theorem GC (q:Int) (hq:-2≤q∧q<10) (L0:bw) (B:aj) (s:(Nat→Int)×List Int) (hs:s.2.length≤20):∃ fr' lv,exec (lh n 4) uY (jT q) (af::af::af::aB 4 [(0,.loop L0)]::fI p B s::H)=some (.normal,fr',lv::af::af::aB 4 [(0,.loop L0)]::fI p B (dO p q s)::H):=by
 have e1:ay .i64 q (Int.ofNat 2)=q+2:=by rw[aR,show Int.ofNat 2=2 from rfl];exact bX (by omega) (by omega)
 have e2:al 0 (q+2) 1=(q+2).toNat:=by rw[bT];omega
 have fin:∀ {T:Tr dg},aH (lh n 4) (il aG n 0) aJ aK uY (hints (jT q)) (af::af::af::aB 4 [(0,.loop L0)]::fI p B s::H)=T→(T.all fun x=>x.1=.normal∧∃ lv,x.2.2=lv::af::af::aB 4 [(0,.loop L0)]::fI p B (dO p q s)::H)→∃ fr' lv,exec (lh n 4) uY (jT q) (af::af::af::aB 4 [(0,.loop L0)]::fI p B s::H)=some (.normal,fr',lv::af::af::aB 4 [(0,.loop L0)]::fI p B (dO p q s)::H):=by
  rintro T rfl ⟨x,h1,h2,lv,h3⟩
  have:=bK (cx:=lh n 4) (bk n) uY (ah _ _) (ai _ _) _ _ _ h1
  rw[aw] at this
  refine ⟨strip x.2.1,lv,this.trans ?_⟩
  obtain ⟨e,f,g⟩:=x
  dsimp only at h2 h3
  subst h2;subst h3;rfl
 obtain ⟨mk,r⟩:=s
 have g0:wi p q mk=(decide (q≠p) && decide (mk (q+2).toNat=0)):=rfl
 have g1:dO p q (mk,r)=if wi p q mk=true then (fO mk (q+2).toNat 1,r++[q]) else (mk,r):=rfl
 cases r with
 | nil =>
   refine fin (Oi n mk H p q B L0) ?_
   rw[e1,e2]
   repeat' first | (refine Tr.an (fun hc=>?_) (fun hc=>?_)<;>(try simp (disch:=omega) only[nV,nW] at hc)<;>try omega) | (refine Tr.ao ?_ ?_;· (try simp (disch:=omega) only[nV,nW]);try omega) | (refine Tr.ak ?_ ?_;· first | exact trivial | rfl | exact ⟨rfl,rfl⟩ | exact ⟨rfl,rfl,rfl⟩ | (simp (disch:=omega) only[nV,nW];done) | ((try simp (disch:=omega) only[nV,nW]);omega)) | fail
   all_goals refine Tr.aq ⟨rfl,?_⟩
   · rw[g1,if_pos (by rw[g0];simp;exact ⟨by assumption,by assumption⟩),bP]
     exact ⟨_,rfl⟩
   all_goals
    rw[g1,if_neg (by rw[g0];simp;intros;omega)]
    exact ⟨_,rfl⟩
 | cons y r =>
   have hl:r.length+1≤20:=by simpa using hs
   have la:=uP (p::y::r) q
   have e4:(r++[q]).length=r.length+1:=by simp
   refine fin (Oj n mk (bE (p::y::r)) H p q B L0 r.length (r.length+2)) ?_
   rw[e1,e2]
   repeat' first | (refine Tr.an (fun hc=>?_) (fun hc=>?_)<;>(try simp (disch:=omega) only[nV,nW] at hc)<;>try omega) | (refine Tr.ao ?_ ?_;· (try simp (disch:=omega) only[nV,nW]);try omega) | (refine Tr.ak ?_ ?_;· first | exact trivial | rfl | exact ⟨rfl,rfl⟩ | exact ⟨rfl,rfl,rfl⟩ | (simp (disch:=omega) only[nV,nW];done) | ((try simp (disch:=omega) only[nV,nW]);omega)) | fail
   all_goals refine Tr.aq ⟨rfl,?_⟩
   · rw[g1,if_pos (by rw[g0];simp;exact ⟨by assumption,by assumption⟩)]
     rw[show (p::y::r).length=r.length+2 from rfl] at la
     rw[la,bP]
     show ∃ lv,_=lv::af::af::aB 4 [(0,.loop L0)]::fI p B (fO mk (q+2).toNat 1,y::(r++[q]))::H
     unfold fI
     dsimp only
     rw[e4]
     exact ⟨_,rfl⟩
   all_goals
    rw[g1,if_neg (by rw[g0];simp;intros;omega)]
    exact ⟨_,rfl⟩
theorem GD (q:Int) (hq:-2≤q∧q<10) (L0:bw) (B:aj) (s:(Nat→Int)×List Int) (hs:s.2.length≤20) (hne:s.2≠[]):∃ fr' lv,exec (lh n 5) uY (jT q) (af::af::af::aB 5 [(0,.loop L0)]::fJ p B s::H)=some (.normal,fr',lv::af::af::aB 5 [(0,.loop L0)]::fJ p B (dO p q s)::H):=by
 have e1:ay .i64 q (Int.ofNat 2)=q+2:=by rw[aR,show Int.ofNat 2=2 from rfl];exact bX (by omega) (by omega)
 have e2:al 0 (q+2) 1=(q+2).toNat:=by rw[bT];omega
 have fin:∀ {T:Tr dg},aH (lh n 5) (il aG n 0) aJ aK uY (hints (jT q)) (af::af::af::aB 5 [(0,.loop L0)]::fJ p B s::H)=T→(T.all fun x=>x.1=.normal∧∃ lv,x.2.2=lv::af::af::aB 5 [(0,.loop L0)]::fJ p B (dO p q s)::H)→∃ fr' lv,exec (lh n 5) uY (jT q) (af::af::af::aB 5 [(0,.loop L0)]::fJ p B s::H)=some (.normal,fr',lv::af::af::aB 5 [(0,.loop L0)]::fJ p B (dO p q s)::H):=by
  rintro T rfl ⟨x,h1,h2,lv,h3⟩
  have:=bK (cx:=lh n 5) (bk n) uY (ah _ _) (ai _ _) _ _ _ h1
  rw[aw] at this
  refine ⟨strip x.2.1,lv,this.trans ?_⟩
  obtain ⟨e,f,g⟩:=x
  dsimp only at h2 h3
  subst h2;subst h3;rfl
 obtain ⟨mk,r⟩:=s
 have g0:wi p q mk=(decide (q≠p) && decide (mk (q+2).toNat=0)):=rfl
 have g1:dO p q (mk,r)=if wi p q mk=true then (fO mk (q+2).toNat 1,r++[q]) else (mk,r):=rfl
 cases r with
 | nil =>
   exact absurd rfl hne
 | cons y r =>
   have hl:r.length+1≤20:=by simpa using hs
   have la:=uP (p::y::r) q
   have e4:(r++[q]).length=r.length+1:=by simp
   refine fin (Ol n mk (bE (p::y::r)) H p q B L0 r.length (r.length+2)) ?_
   rw[e1,e2]
   repeat' first | (refine Tr.an (fun hc=>?_) (fun hc=>?_)<;>(try simp (disch:=omega) only[nV,nW] at hc)<;>try omega) | (refine Tr.ao ?_ ?_;· (try simp (disch:=omega) only[nV,nW]);try omega) | (refine Tr.ak ?_ ?_;· first | exact trivial | rfl | exact ⟨rfl,rfl⟩ | exact ⟨rfl,rfl,rfl⟩ | (simp (disch:=omega) only[nV,nW];done) | ((try simp (disch:=omega) only[nV,nW]);omega)) | fail
   all_goals refine Tr.aq ⟨rfl,?_⟩
   · rw[g1,if_pos (by rw[g0];simp;exact ⟨by assumption,by assumption⟩)]
     rw[show (p::y::r).length=r.length+2 from rfl] at la
     rw[la,bP]
     show ∃ lv,_=lv::af::af::aB 5 [(0,.loop L0)]::fJ p B (fO mk (q+2).toNat 1,y::(r++[q]))::H
     unfold fJ
     dsimp only
     rw[e4]
     exact ⟨_,rfl⟩
   all_goals
    rw[g1,if_neg (by rw[g0];simp;intros;omega)]
    exact ⟨_,rfl⟩
theorem HN (q:Int) (hq:-2≤q∧q<10) (L0:bw) (s:(Nat→Int)×List Int) (hs:s.2.length≤20):cd (n+1) (.round 3 4) [.int .i64 q] (af::af::aB 4 [(0,.loop L0)]::fI p (.loop (bJ tk w ls ld zs zd sz kd sure i cur)) s::H)=some (.bool true,af::af::aB 4 [(0,.loop L0)]::fI p (.loop (bJ tk w ls ld zs zd sz kd sure i cur)) (dO p q s)::H):=by
 obtain ⟨fr',lv,h2⟩:=GC n H p q hq L0 (.loop { bJ tk w ls ld zs zd sz kd sure i cur with state:=.busy }) s hs
 have ha:=Gz n tk w ls ld zs zd sz kd cur i sure q (aB 4 [(0,.loop L0)]) (fI p (.loop (bJ tk w ls ld zs zd sz kd sure i cur)) s::H)
 obtain ⟨mk,r⟩:=s
 have gne:∀ s':(Nat→Int)×List Int,dO p q (mk,r)=s'→r≠[]→s'.2≠[]:=fun s' e hr=>by
  rw[← e];unfold dO;split
  · simp
  · exact hr
 generalize hg:dO p q (mk,r)=s' at *
 obtain ⟨mk',r'⟩:=s'
 have key:∀ (h0:aN (af::af::aB 4 [(0,.loop L0)]::fI p (.loop (bJ tk w ls ld zs zd sz kd sure i cur)) (mk,r)::H) 3 4=(0,.loop (bJ tk w ls ld zs zd sz kd sure i cur)))
  (h6:aY (af::af::aB 4 [(0,.loop L0)]::fI p (.loop (bJ tk w ls ld zs zd sz kd sure i cur)) (mk,r)::H) 3=false)
  (h1:aN (af::af::af::aB 4 [(0,.loop L0)]::fI p (.loop (bJ tk w ls ld zs zd sz kd sure i cur)) (mk,r)::H) 4 4=(0,.loop (bJ tk w ls ld zs zd sz kd sure i cur)))
  (h3:eK (af::af::af::aB 4 [(0,.loop L0)]::fI p (.loop (bJ tk w ls ld zs zd sz kd sure i cur)) (mk,r)::H) 4 4 (0,.loop { bJ tk w ls ld zs zd sz kd sure i cur with state:=.busy })=af::af::af::aB 4 [(0,.loop L0)]::fI p (.loop { bJ tk w ls ld zs zd sz kd sure i cur with state:=.busy }) (mk,r)::H)
  (h4:aN (af::af::aB 4 [(0,.loop L0)]::fI p (.loop { bJ tk w ls ld zs zd sz kd sure i cur with state:=.busy }) (mk',r')::H) 3 4=(0,.loop { bJ tk w ls ld zs zd sz kd sure i cur with state:=.busy }))
  (h5:eK (af::af::aB 4 [(0,.loop L0)]::fI p (.loop { bJ tk w ls ld zs zd sz kd sure i cur with state:=.busy }) (mk',r')::H) 3 4 (0,.loop (bJ tk w ls ld zs zd sz kd sure i cur))=af::af::aB 4 [(0,.loop L0)]::fI p (.loop (bJ tk w ls ld zs zd sz kd sure i cur)) (mk',r')::H),
  cd (n+1) (.round 3 4) [.int .i64 q] (af::af::aB 4 [(0,.loop L0)]::fI p (.loop (bJ tk w ls ld zs zd sz kd sure i cur)) (mk,r)::H)=some (.bool true,af::af::aB 4 [(0,.loop L0)]::fI p (.loop (bJ tk w ls ld zs zd sz kd sure i cur)) (mk',r')::H):=by
  intro h0 h6 h1 h3 h4 h5
  have:=dE (P:=Try.prog) (ora:=mo) (KT:=Kt.kt) (fu:=100000) (n:=n) (d:=3) (i:=4) (args:=[.int .i64 q]) (l:=bJ tk w ls ld zs zd sz kd sure i cur) (l1:=bJ tk w ls ld zs zd sz kd sure i cur) (l2:={ bJ tk w ls ld zs zd sz kd sure i cur with state:=.busy }) (fr:=pI tk w ls ld zs zd sz kd sure i q cur) h0 h6 rfl rfl ha h1 rfl (by rw[h3];exact h2) h4
  refine this.trans ?_
  rw[← h5];rfl
 cases r<;>cases r'<;>exact key rfl rfl rfl rfl rfl rfl
theorem HO (q:Int) (hq:-2≤q∧q<10) (L0:bw) (s:(Nat→Int)×List Int) (hs:s.2.length≤20) (hne:s.2≠[]):cd (n+1) (.round 3 5) [.int .i64 q] (af::af::aB 5 [(0,.loop L0)]::fJ p (.loop (bJ tk w ls ld zs zd sz kd sure i cur)) s::H)=some (.bool true,af::af::aB 5 [(0,.loop L0)]::fJ p (.loop (bJ tk w ls ld zs zd sz kd sure i cur)) (dO p q s)::H):=by
 obtain ⟨fr',lv,h2⟩:=GD n H p q hq L0 (.loop { bJ tk w ls ld zs zd sz kd sure i cur with state:=.busy }) s hs hne
 have ha:=GA n tk w ls ld zs zd sz kd cur i sure q (aB 5 [(0,.loop L0)]) (fJ p (.loop (bJ tk w ls ld zs zd sz kd sure i cur)) s::H)
 obtain ⟨mk,r⟩:=s
 have gne:∀ s':(Nat→Int)×List Int,dO p q (mk,r)=s'→r≠[]→s'.2≠[]:=fun s' e hr=>by
  rw[← e];unfold dO;split
  · simp
  · exact hr
 generalize hg:dO p q (mk,r)=s' at *
 obtain ⟨mk',r'⟩:=s'
 have key:∀ (h0:aN (af::af::aB 5 [(0,.loop L0)]::fJ p (.loop (bJ tk w ls ld zs zd sz kd sure i cur)) (mk,r)::H) 3 5=(0,.loop (bJ tk w ls ld zs zd sz kd sure i cur)))
  (h6:aY (af::af::aB 5 [(0,.loop L0)]::fJ p (.loop (bJ tk w ls ld zs zd sz kd sure i cur)) (mk,r)::H) 3=false)
  (h1:aN (af::af::af::aB 5 [(0,.loop L0)]::fJ p (.loop (bJ tk w ls ld zs zd sz kd sure i cur)) (mk,r)::H) 4 5=(0,.loop (bJ tk w ls ld zs zd sz kd sure i cur)))
  (h3:eK (af::af::af::aB 5 [(0,.loop L0)]::fJ p (.loop (bJ tk w ls ld zs zd sz kd sure i cur)) (mk,r)::H) 4 5 (0,.loop { bJ tk w ls ld zs zd sz kd sure i cur with state:=.busy })=af::af::af::aB 5 [(0,.loop L0)]::fJ p (.loop { bJ tk w ls ld zs zd sz kd sure i cur with state:=.busy }) (mk,r)::H)
  (h4:aN (af::af::aB 5 [(0,.loop L0)]::fJ p (.loop { bJ tk w ls ld zs zd sz kd sure i cur with state:=.busy }) (mk',r')::H) 3 5=(0,.loop { bJ tk w ls ld zs zd sz kd sure i cur with state:=.busy }))
  (h5:eK (af::af::aB 5 [(0,.loop L0)]::fJ p (.loop { bJ tk w ls ld zs zd sz kd sure i cur with state:=.busy }) (mk',r')::H) 3 5 (0,.loop (bJ tk w ls ld zs zd sz kd sure i cur))=af::af::aB 5 [(0,.loop L0)]::fJ p (.loop (bJ tk w ls ld zs zd sz kd sure i cur)) (mk',r')::H),
  cd (n+1) (.round 3 5) [.int .i64 q] (af::af::aB 5 [(0,.loop L0)]::fJ p (.loop (bJ tk w ls ld zs zd sz kd sure i cur)) (mk,r)::H)=some (.bool true,af::af::aB 5 [(0,.loop L0)]::fJ p (.loop (bJ tk w ls ld zs zd sz kd sure i cur)) (mk',r')::H):=by
  intro h0 h6 h1 h3 h4 h5
  have:=dE (P:=Try.prog) (ora:=mo) (KT:=Kt.kt) (fu:=100000) (n:=n) (d:=3) (i:=5) (args:=[.int .i64 q]) (l:=bJ tk w ls ld zs zd sz kd sure i cur) (l1:=bJ tk w ls ld zs zd sz kd sure i cur) (l2:={ bJ tk w ls ld zs zd sz kd sure i cur with state:=.busy }) (fr:=pI tk w ls ld zs zd sz kd sure i q cur) h0 h6 rfl rfl ha h1 rfl (by rw[h3];exact h2) h4
  refine this.trans ?_
  rw[← h5];rfl
 cases r with
 | nil=>exact absurd rfl hne
 | cons y r =>
   cases r' with
   | nil=>exact absurd rfl (gne _ rfl (by simp))
   | cons y' r'=>exact key rfl rfl rfl rfl rfl rfl
end
end Go.Eng
end
section
namespace Go.Eng
open Go.Proofs
set_option linter.unusedVariables false
set_option linter.unusedSimpArgs false
set_option maxRecDepth 100000
theorem rZ:∀ (N:Nat) (a:Int) (l:List Int),l.Nodup→(∀ q ∈ l,a≤q∧q<a+N)→l.length≤N
 | 0,a,l,_,h=>by
   cases l with
   | nil=>simp
   | cons x r=>have:=h x (by simp);omega
 | N + 1,a,l,hd,h=>by
   by_cases hm:a+N ∈ l
   · have h1:=rZ N a (l.erase (a+N)) (hd.erase _) (fun q hq=>by
      have h2:=(hd.mem_erase_iff).1 hq
      have:=h q h2.2
      have:=h2.1
      omega)
     have:=List.length_erase_of_mem hm
     have:=List.length_pos_of_mem hm
     omega
   · have:=rZ N a l hd (fun q hq=>by
      have:=h q hq
      have:q≠a+N:=fun e=>hm (e ▸ hq)
      omega)
     omega
structure GI (ls:Nat) (p:Int) (s:(Nat→Int)×List Int):Prop where
 mem:∀ q ∈ s.2,-2≤q∧q<ls∧q≠p∧s.1 (q+2).toNat≠0
 nd:s.2.Nodup
theorem GI.len {ls:Nat} {p:Int} {s:(Nat→Int)×List Int} (h:GI ls p s):s.2.length≤ls+2 :=
 rZ (ls+2) (-2) s.2 h.nd (fun q hq=>by have:=h.mem q hq;omega)
theorem GI.step {ls:Nat} {p q:Int} {s:(Nat→Int)×List Int} (h:GI ls p s) (hq:-2≤q∧q<ls):GI ls p (dO p q s):=by
 unfold dO
 split
 · rename_i hn
   unfold wi at hn
   simp only[Bool.and_eq_true,decide_eq_true_eq] at hn
   refine ⟨fun x hx=>?_,?_⟩
   · rcases List.mem_append.1 hx with hx | hx
     · have:=h.mem x hx
       refine ⟨this.1,this.2.1,this.2.2.1,?_⟩
       rw[eF]
       dsimp only
       split
       · decide
       · exact this.2.2.2
     · obtain rfl:x=q:=by simpa using hx
       refine ⟨hq.1,hq.2,hn.1,?_⟩
       rw[eF];simp
   · rw[List.nodup_append]
     refine ⟨h.nd,by simp,fun a ha b hb e=>?_⟩
     obtain rfl:b=q:=by simpa using hb
     subst e
     exact (h.mem a ha).2.2.2 hn.2
 · exact h
theorem GI.fold {ls:Nat} {p:Int} {s:(Nat→Int)×List Int} (h:GI ls p s) (hl:Nat→Bool):∀ j,j≤ls+2→GI ls p (cO hl p s j)
 | 0,_=>h
 | j+1,hj=>by
   have ih:=GI.fold h hl j (by omega)
   unfold cO
   split
   · exact ih.step ⟨by omega,by omega⟩
   · exact ih
theorem lz {hl:Nat→Bool} {p:Int} {s:(Nat→Int)×List Int} (h:s.2≠[]):∀ j,(cO hl p s j).2≠[]
 | 0=>h
 | j + 1=>by
   have ih:=lz (hl:=hl) (p:=p) h j
   unfold cO
   split
   · unfold dO
     split
     · simp
     · exact ih
   · exact ih
noncomputable def ky (kd:Nat→Int) (sure:Bool) (ls:Nat) (p:Int) (mk:Nat→Int):Nat→(Nat→Int)×List Int
 | 0=>(mk,[])
 | i+1=>cO (fun j=>cG kd sure (bE (p::(ky kd sure ls p mk i).2) i) ((j:Int)-2)) p (ky kd sure ls p mk i) (ls+2)
section
variable (n:Nat) (tk:Nat) (w:Int) (ls ld:Nat) (zs zd sz kd:Nat→Int) (H:ae) (p cur i:Int) (sure:Bool)
theorem CE (s:(Nat→Int)×List Int) (hs:GI ls p s) (hls:ls≤10):iK 4 n ls kd cur sure (fun j=>fI p (.loop (bJ tk w ls ld zs zd sz kd sure i cur)) (cO (fun j=>cG kd sure cur ((j:Int)-2)) p s j)::H) (fun _=>[]) (fun _=>true) where
 hit:=fun j hj hh L=>by
  have hg:=hs.fold (fun j=>cG kd sure cur ((j:Int)-2)) j (by omega)
  have hlen:=hg.len
  have:=HN (n+1) tk w ls ld zs zd sz kd H p cur i sure ((j:Int)-2) ⟨by omega,by omega⟩ L (cO (fun j=>cG kd sure cur ((j:Int)-2)) p s j) (by omega)
  have e:cO (fun j=>cG kd sure cur ((j:Int)-2)) p s (j+1)=dO p ((j:Int)-2) (cO (fun j=>cG kd sure cur ((j:Int)-2)) p s j):=by
   show (if cG kd sure cur ((j:Int)-2)=true then _ else _)=_
   rw[if_pos hh]
  rw[if_pos rfl,e]
  exact this
 skip:=fun j hj hh=>by
  have e:cO (fun j=>cG kd sure cur ((j:Int)-2)) p s (j+1)=cO (fun j=>cG kd sure cur ((j:Int)-2)) p s j:=by
   show (if cG kd sure cur ((j:Int)-2)=true then _ else _)=_
   rw[if_neg (by rw[hh];simp)]
  rw[e]
theorem GR (s:(Nat→Int)×List Int) (hs:GI ls p s) (hls:ls≤10) (hc:-2≤cur∧cur<ls):cd (n+5) (.fn 110) (.yld 0 4::gv (tk+1) w ls ld zs zd sz kd cur sure) (fI p (.loop (bJ tk w ls ld zs zd sz kd sure i cur)) s::H) =
 some (.tup [],fI p (.loop (bJ tk w ls ld zs zd sz kd sure i cur)) (cO (fun j=>cG kd sure cur ((j:Int)-2)) p s (ls+2))::H):=by
 have:=AF 4 n (tk+1) w ls ld zs zd sz kd cur sure (CE n tk w ls ld zs zd sz kd H p cur i sure s hs hls) hc hls
 have hn:bD (dC kd sure cur (fun _=>true)) (ls+2)=false:=by
  cases hq:bD (dC kd sure cur (fun _=>true)) (ls+2) with
  | false=>rfl
  | true =>
    obtain ⟨j,hj,h1⟩:=(bV _ _).1 hq
    unfold dC at h1
    simp at h1
 rw[hn,if_neg (by simp)] at this
 exact this
theorem HU (mk:Nat→Int) (hs:GI ls p (mk,[])) (hls:ls≤10) (hc:-2≤cur∧cur<ls):exec (bF (n+5) 88 56) (.rangeFunc (.tmp 30) #[31] z4 uY) (gg tk w ls ld zs zd sz kd sure i cur) (dh p mk (.slc 0 2 0 0 1 1 (some 1)) []::H) =
 some (.normal,gg tk w ls ld zs zd sz kd sure i cur,fI p .dead (cO (fun j=>cG kd sure cur ((j:Int)-2)) p (mk,[]) (ls+2))::H):=by
 have hc':=GR n tk w ls ld zs zd sz kd H p cur i sure (mk,[]) hs hls hc
 have hne:(mk,([]:List Int)).2≠[]→(cO (fun j=>cG kd sure cur ((j:Int)-2)) p (mk,[]) (ls+2)).2≠[]:=fun h=>lz (hl:=fun j=>cG kd sure cur ((j:Int)-2)) (p:=p) h (ls+2)
 generalize cO (fun j=>cG kd sure cur ((j:Int)-2)) p (mk,[]) (ls+2)=s' at *
 obtain ⟨mk',r'⟩:=s'
 have key:∀ (h1:aN (fI p (.loop (bJ tk w ls ld zs zd sz kd sure i cur)) (mk',r')::H) 0 4=(0,.loop (bJ tk w ls ld zs zd sz kd sure i cur)))
  (h2:dQ (fI p (.loop (bJ tk w ls ld zs zd sz kd sure i cur)) (mk',r')::H) 0 4=fI p .dead (mk',r')::H),exec (bF (n+5) 88 56) (.rangeFunc (.tmp 30) #[31] z4 uY) (gg tk w ls ld zs zd sz kd sure i cur) (dh p mk (.slc 0 2 0 0 1 1 (some 1)) []::H)=some (.normal,gg tk w ls ld zs zd sz kd sure i cur,fI p .dead (mk',r')::H):=by
  intro h1 h2
  have:exec (bF (n+5) 88 56) (.rangeFunc (.tmp 30) #[31] z4 uY) (gg tk w ls ld zs zd sz kd sure i cur) (dh p mk (.slc 0 2 0 0 1 1 (some 1)) []::H)=some (.normal,gg tk w ls ld zs zd sz kd sure i cur,dQ (fI p (.loop (bJ tk w ls ld zs zd sz kd sure i cur)) (mk',r')::H) 0 4):=c5 (cx:=bF (n+5) 88 56) (l:=bJ tk w ls ld zs zd sz kd sure i cur) (f:=.tmp 30) (ps:=#[31]) (fr:=gg tk w ls ld zs zd sz kd sure i cur) (H:=dh p mk (.slc 0 2 0 0 1 1 (some 1)) []::H) (g:=110) (a:=[]) (b:=gv (tk+1) w ls ld zs zd sz kd cur sure) (e:=.normal) rfl rfl rfl hc' h1 rfl rfl
  rw[← h2];exact this
 cases r' with
 | nil=>exact key rfl rfl
 | cons y r'=>exact key rfl rfl
theorem CF (s:(Nat→Int)×List Int) (hs:GI ls p s) (hls:ls≤10) (hne:s.2≠[]):iK 5 n ls kd cur sure (fun j=>fJ p (.loop (bJ tk w ls ld zs zd sz kd sure i cur)) (cO (fun j=>cG kd sure cur ((j:Int)-2)) p s j)::H) (fun _=>[]) (fun _=>true) where
 hit:=fun j hj hh L=>by
  have hg:=hs.fold (fun j=>cG kd sure cur ((j:Int)-2)) j (by omega)
  have hlen:=hg.len
  have:=HO (n+1) tk w ls ld zs zd sz kd H p cur i sure ((j:Int)-2) ⟨by omega,by omega⟩ L (cO (fun j=>cG kd sure cur ((j:Int)-2)) p s j) (by omega) (lz hne j)
  have e:cO (fun j=>cG kd sure cur ((j:Int)-2)) p s (j+1)=dO p ((j:Int)-2) (cO (fun j=>cG kd sure cur ((j:Int)-2)) p s j):=by
   show (if cG kd sure cur ((j:Int)-2)=true then _ else _)=_
   rw[if_pos hh]
  rw[if_pos rfl,e]
  exact this
 skip:=fun j hj hh=>by
  have e:cO (fun j=>cG kd sure cur ((j:Int)-2)) p s (j+1)=cO (fun j=>cG kd sure cur ((j:Int)-2)) p s j:=by
   show (if cG kd sure cur ((j:Int)-2)=true then _ else _)=_
   rw[if_neg (by rw[hh];simp)]
  rw[e]
theorem GS (s:(Nat→Int)×List Int) (hs:GI ls p s) (hls:ls≤10) (hc:-2≤cur∧cur<ls) (hne:s.2≠[]):cd (n+5) (.fn 110) (.yld 0 5::gv (tk+1) w ls ld zs zd sz kd cur sure) (fJ p (.loop (bJ tk w ls ld zs zd sz kd sure i cur)) s::H) =
 some (.tup [],fJ p (.loop (bJ tk w ls ld zs zd sz kd sure i cur)) (cO (fun j=>cG kd sure cur ((j:Int)-2)) p s (ls+2))::H):=by
 have:=AF 5 n (tk+1) w ls ld zs zd sz kd cur sure (CF n tk w ls ld zs zd sz kd H p cur i sure s hs hls hne) hc hls
 have hn:bD (dC kd sure cur (fun _=>true)) (ls+2)=false:=by
  cases hq:bD (dC kd sure cur (fun _=>true)) (ls+2) with
  | false=>rfl
  | true =>
    obtain ⟨j,hj,h1⟩:=(bV _ _).1 hq
    unfold dC at h1
    simp at h1
 rw[hn,if_neg (by simp)] at this
 exact this
theorem HW (mk:Nat→Int) (y:Int) (r:List Int) (hs:GI ls p (mk,y::r)) (hls:ls≤10) (hc:-2≤cur∧cur<ls):exec (bF (n+5) 88 56) (.rangeFunc (.tmp 30) #[31] z4 uY) (gg tk w ls ld zs zd sz kd sure i cur) (dh p mk (.slc 0 4 r.length 0 1 (r.length+2) none) [(r.length,.row (.M [.arr .i64 (bE (p::y::r)) (r.length+2)]))]::H) =
 some (.normal,gg tk w ls ld zs zd sz kd sure i cur,fJ p .dead (cO (fun j=>cG kd sure cur ((j:Int)-2)) p (mk,y::r) (ls+2))::H):=by
 have hc':=GS n tk w ls ld zs zd sz kd H p cur i sure (mk,y::r) hs hls hc (by simp)
 have hne:(mk,(y::r:List Int)).2≠[]→(cO (fun j=>cG kd sure cur ((j:Int)-2)) p (mk,y::r) (ls+2)).2≠[]:=fun h=>lz (hl:=fun j=>cG kd sure cur ((j:Int)-2)) (p:=p) h (ls+2)
 generalize cO (fun j=>cG kd sure cur ((j:Int)-2)) p (mk,y::r) (ls+2)=s' at *
 obtain ⟨mk',r'⟩:=s'
 have key:∀ (h1:aN (fJ p (.loop (bJ tk w ls ld zs zd sz kd sure i cur)) (mk',r')::H) 0 5=(0,.loop (bJ tk w ls ld zs zd sz kd sure i cur)))
  (h2:dQ (fJ p (.loop (bJ tk w ls ld zs zd sz kd sure i cur)) (mk',r')::H) 0 5=fJ p .dead (mk',r')::H),exec (bF (n+5) 88 56) (.rangeFunc (.tmp 30) #[31] z4 uY) (gg tk w ls ld zs zd sz kd sure i cur) (dh p mk (.slc 0 4 r.length 0 1 (r.length+2) none) [(r.length,.row (.M [.arr .i64 (bE (p::y::r)) (r.length+2)]))]::H)=some (.normal,gg tk w ls ld zs zd sz kd sure i cur,fJ p .dead (mk',r')::H):=by
  intro h1 h2
  have:exec (bF (n+5) 88 56) (.rangeFunc (.tmp 30) #[31] z4 uY) (gg tk w ls ld zs zd sz kd sure i cur) (dh p mk (.slc 0 4 r.length 0 1 (r.length+2) none) [(r.length,.row (.M [.arr .i64 (bE (p::y::r)) (r.length+2)]))]::H)=some (.normal,gg tk w ls ld zs zd sz kd sure i cur,dQ (fJ p (.loop (bJ tk w ls ld zs zd sz kd sure i cur)) (mk',r')::H) 0 5):=c5 (cx:=bF (n+5) 88 56) (l:=bJ tk w ls ld zs zd sz kd sure i cur) (f:=.tmp 30) (ps:=#[31]) (fr:=gg tk w ls ld zs zd sz kd sure i cur) (H:=dh p mk (.slc 0 4 r.length 0 1 (r.length+2) none) [(r.length,.row (.M [.arr .i64 (bE (p::y::r)) (r.length+2)]))]::H) (g:=110) (a:=[]) (b:=gv (tk+1) w ls ld zs zd sz kd cur sure) (e:=.normal) rfl rfl rfl hc' h1 rfl rfl
  rw[← h2];exact this
 cases r' with
 | nil=>exact absurd rfl (hne (by simp))
 | cons y r'=>exact key rfl rfl
end
end Go.Eng
end
section
namespace Go.Eng
open Go.Proofs
set_option linter.unusedVariables false
set_option linter.unusedSimpArgs false
set_option maxRecDepth 100000
theorem K0 (n:Nat) (tk:Nat) (w:Int) (ls ld:Nat) (zs zd sz kd mk:Nat→Int) (H:ae) (p i:Int) (sure:Bool):aH (bF (n+5) 88 56) (il aG (n+4) 1) aJ (th aK (fun _=>true) [] [] .bad) (part Try.f88 [1,1,1,1,1,0,1,0,0]) (hints (n9 tk w ls ld zs zd sz kd sure i)) (dh p mk (.slc 0 2 0 0 1 1 (some 1)) []::H) =
 (fun (Z0:Row)=>((fun (Z1:b6)=>Tr.ite (bA i (Int.ofNat 1)) (Tr.req (br i 1) (Tr.req (dH 0 0) (Tr.req (bt (al 0 i 1) (A7 [p])) (Tr.reqP ([(0,AV.ptrT (some (Nat.succ tk)) Z0 0),(2,AV.bool sure),(4,AV.ptr 0 0 0 0),(7,AV.ptr 0 1 0 0),(8,AV.ptr 0 3 0 0),(9,AV.int .i64 i),(30,AV.fn (Fn.func 110) [] [AV.ptrT (some 0) (Row.G [AV.ptrT (some (Nat.succ tk)) Z0 0]) 0,AV.ptrT none (Row.I .i64 [bE [p] (al 0 i 1)]) 0,AV.ptrT (some 0) (Row.G [AV.bool sure]) 0])]=[]∧Z1::H=[]) Tr.bad)))) (Tr.ok (Ex.exit 0,[(0,AV.ptrT (some (Nat.succ tk)) Z0 0,none),(2,AV.bool sure,none),(4,AV.ptr 0 0 0 0,none),(7,AV.ptr 0 1 0 0,none),(8,AV.ptr 0 3 0 0,none),(9,AV.int .i64 i,none),(21,AV.bool false,some 1)],Z1::H))) { lock:=false,bs:=[(0,aj.row (Row.I .i64 [p])),(0,aj.row (Row.M [aC.arr .i64 mk 12])),(0,aj.row (Row.I .i64 [p])),(0,aj.row (Row.G [AV.slc 0 2 0 0 1 1 (some 1)]))] })) (Row.M [aC.one (AV.int .i64 w),aC.one (aU 2 ls zs),aC.one (aU 3 ld zd),aC.one (.slcT none (.M [.arr .i64 sz (aI ls 2)]) 2 ls true),aC.arr .i64 kd 144]):=by kernel_rfl
theorem K1 (n:Nat) (tk:Nat) (w:Int) (ls ld:Nat) (zs zd sz kd mk z:Nat→Int) (H:ae) (p i:Int) (sure:Bool) (v m:Nat):aH (bF (n+5) 88 56) (il aG (n+4) 1) aJ (th aK (fun _=>true) [] [] .bad) (part Try.f88 [1,1,1,1,1,0,1,0,0]) (hints (n9 tk w ls ld zs zd sz kd sure i)) (dh p mk (.slc 0 4 v 0 1 m none) [(v,.row (.M [.arr .i64 z m]))]::H) =
 (fun (Z0:Row)=>((fun (Z1:b6)=>Tr.ite (bA i (Int.ofNat m)) (Tr.req (br i m) (Tr.req (dH v v) (Tr.req (bt (al 0 i 1) m) (Tr.reqP ([(0,AV.ptrT (some (Nat.succ tk)) Z0 0),(2,AV.bool sure),(4,AV.ptr 0 0 0 0),(7,AV.ptr 0 1 0 0),(8,AV.ptr 0 3 0 0),(9,AV.int .i64 i),(30,AV.fn (Fn.func 110) [] [AV.ptrT (some 0) (Row.G [AV.ptrT (some (Nat.succ tk)) Z0 0]) 0,AV.ptrT none (Row.I .i64 [z (al 0 i 1)]) 0,AV.ptrT (some 0) (Row.G [AV.bool sure]) 0])]=[]∧Z1::H=[]) Tr.bad)))) (Tr.ok (Ex.exit 0,[(0,AV.ptrT (some (Nat.succ tk)) Z0 0,none),(2,AV.bool sure,none),(4,AV.ptr 0 0 0 0,none),(7,AV.ptr 0 1 0 0,none),(8,AV.ptr 0 3 0 0,none),(9,AV.int .i64 i,none),(21,AV.bool false,some 1)],Z1::H))) { lock:=false,bs:=[(0,aj.row (Row.I .i64 [p])),(0,aj.row (Row.M [aC.arr .i64 mk 12])),(0,aj.row (Row.I .i64 [p])),(0,aj.row (Row.G [AV.slc 0 4 v 0 1 m none])),(v,aj.row (Row.M [aC.arr .i64 z m]))] })) (Row.M [aC.one (AV.int .i64 w),aC.one (aU 2 ls zs),aC.one (aU 3 ld zd),aC.one (.slcT none (.M [.arr .i64 sz (aI ls 2)]) 2 ls true),aC.arr .i64 kd 144]):=by kernel_rfl
noncomputable def A8 (p:Int) (s:(Nat→Int)×List Int):b6:=match s.2 with
 | []=>dh p s.1 (.slc 0 2 0 0 1 1 (some 1)) []
 | y::r=>dh p s.1 (.slc 0 4 r.length 0 1 (r.length+2) none) [(r.length,.row (.M [.arr .i64 (bE (p::y::r)) (r.length+2)]))]
theorem zN (L:List Int) (i:Nat) (h:i<L.length):bE L i ∈ L:=by
 rw[gL]
 simp[List.getD_eq_getElem?_getD,h]
section
variable (n:Nat) (tk:Nat) (w:Int) (ls ld:Nat) (zs zd sz kd:Nat→Int) (H:ae) (p:Int) (sure:Bool) (mk:Nat→Int)
theorem mT (hp:-2≤p∧p<ls):∀ i,GI ls p (ky kd sure ls p mk i)
 | 0=>⟨fun q hq=>by simp[ky] at hq,by simp[ky]⟩
 | i+1=>(mT hp i).fold _ _ (Nat.le_refl _)
theorem Eo (hp:-2≤p∧p<ls) (i:Nat) (hi:i<1+(ky kd sure ls p mk i).2.length):-2≤bE (p::(ky kd sure ls p mk i).2) i∧bE (p::(ky kd sure ls p mk i).2) i<ls:=by
 have:=zN (p::(ky kd sure ls p mk i).2) i (by simp;omega)
 rcases List.mem_cons.1 this with h | h
 · rw[h];exact hp
 · have:=(mT ls kd p sure mk hp i).mem _ h
   exact ⟨this.1,this.2.1⟩
noncomputable def vC (kd:Nat→Int) (sure:Bool) (ls:Nat) (p:Int) (mk:Nat→Int):Nat:=fN (fun j=>decide (1+(ky kd sure ls p mk j).2.length≤j)) 20 0
theorem Ci (hp:-2≤p∧p<ls) (hls:ls≤10):vC kd sure ls p mk≤13∧(∀ j,j<vC kd sure ls p mk→j<1+(ky kd sure ls p mk j).2.length)∧1+(ky kd sure ls p mk (vC kd sure ls p mk)).2.length≤vC kd sure ls p mk:=by
 have hl:∀ j,(ky kd sure ls p mk j).2.length≤12:=fun j=>by
  have:=(mT ls kd p sure mk hp j).len;omega
 obtain ⟨h1,h2,h3,h4⟩:=ji (fun j=>decide (1+(ky kd sure ls p mk j).2.length≤j)) 20 0
 have h13:vC kd sure ls p mk≤13:=by
  by_cases h:vC kd sure ls p mk≤13
  · exact h
  · have:=h3 13 (by omega) (by unfold vC at h;omega)
    have:=hl 13
    simp only[decide_eq_false_iff_not] at *
    omega
 refine ⟨h13,fun j hj=>?_,?_⟩
 · have:=h3 j (by omega) hj
   simp only[decide_eq_false_iff_not] at this
   omega
 · have:=h4 (by unfold vC at h13;omega)
   unfold vC
   simpa using this
theorem J6:cM (part Try.f88 [1,1,1,1,1,0,1,0,0])=[(.tmp 30,#[31],z4,uY)]:=by kernel_rfl
theorem Rx (hp:-2≤p∧p<ls)          (hls:ls≤10):exec (bF (n+5) 88 56) (.block 0 (.loop (part Try.f88 [1,1,1,1,1,0,1,0,0]))) (n9 tk w ls ld zs zd sz kd sure 0) (dh p mk (.slc 0 2 0 0 1 1 (some 1)) []::H) =
 some (.normal,n9 tk w ls ld zs zd sz kd sure ((vC kd sure ls p mk:Nat):Int)++[(21,.bool false)],A8 p (ky kd sure ls p mk (vC kd sure ls p mk))::H):=by
 obtain ⟨n1,n2,n3⟩:=Ci ls kd p sure mk hp hls
 generalize vC kd sure ls p mk=N at *
 have:=uE (n:=n+5) (f:=88) (nt:=56) (c:=part Try.f88 [1,1,1,1,1,0,1,0,0]) 0 (fun i=>n9 tk w ls ld zs zd sz kd sure (i:Int)) (fun i=>A8 p (ky kd sure ls p mk i)::H) N (n9 tk w ls ld zs zd sz kd sure ((N:Nat):Int)++[(21,.bool false)],A8 p (ky kd sure ls p mk N)::H) (by omega) (fun i hi=>?_) ?_
 · exact this
 · have hlt:=n2 i hi
   have hg:=mT ls kd p sure mk hp i
   have hcr:=Eo ls kd p sure mk hp i hlt
   have ei:ay .i64 (i:Int) (Int.ofNat 1)=((i+1:Nat):Int):=by rw[aR,show Int.ofNat 1=1 from rfl];exact bX (by omega) (by omega)
   have ed:al 0 (i:Int) 1=i:=by rw[bT];omega
   have eS:ky kd sure ls p mk (i+1)=cO (fun j=>cG kd sure (bE (p::(ky kd sure ls p mk i).2) i) ((j:Int)-2)) p (ky kd sure ls p mk i) (ls+2):=rfl
   have h0:bm (A8 p (ky kd sure ls p mk 0)::H)=4:=rfl
   have hlen:=hg.len
   rw[eS,h0]
   generalize ky kd sure ls p mk i=s at *
   obtain ⟨mk1,r⟩:=s
   cases r with
   | nil =>
     have hi0:i=0:=by       have:i<1:=by simpa using hlt
                            omega
     subst hi0
     have hr:=HU n tk w ls ld zs zd sz kd H p (bE [p] 0) ((0:Nat):Int) sure mk1 hg hls hcr
     generalize hs':cO (fun j=>cG kd sure (bE [p] 0) ((j:Int)-2)) p (mk1,[]) (ls+2)=s' at *
     refine bz (K2 n tk w ls ld zs zd sz kd mk1 H p (bE [p] 0) ((0:Nat):Int) sure (fI p .dead s')) (bU (n+4) 1) (ah _ _) (eX (ai _ _) (fun f ps a b _ hm x hx=>?_)) ?_
     · rw[J6] at hm
       simp only[List.mem_cons,Prod.mk.injEq,List.not_mem_nil,or_false] at hm
       obtain ⟨rfl,rfl,rfl,rfl⟩:=hm
       rw[← Tr.ab hx]
       simp only[dg.st,aw]
       exact hr
     · rw[ed,ei]
       have hl1:A7 [p]=1:=by rw[zL];rfl
       rw[hl1]
       repeat' first | (refine Tr.an (fun hc=>?_) (fun hc=>?_)<;>(try simp (disch:=omega) only[nV,nW] at hc)<;>try omega) | (refine Tr.ao ?_ ?_;· (try simp (disch:=omega) only[nV,nW]);try omega) | (refine Tr.ak ?_ ?_;· first | exact trivial | rfl | exact ⟨rfl,rfl⟩ | exact ⟨rfl,rfl,rfl⟩ | (simp (disch:=omega) only[nV,nW];done) | ((try simp (disch:=omega) only[nV,nW]);omega)) | fail
       refine Tr.aq ⟨rfl,?_⟩
       obtain ⟨mk2,r2⟩:=s'
       cases r2<;>rfl
   | cons y r =>
     have hr:=HW n tk w ls ld zs zd sz kd H p (bE (p::y::r) i) (i:Int) sure mk1 y r hg hls hcr
     have hi2:i<r.length+2:=by         have:i<1+(r.length+1):=by simpa using hlt
                                       omega
     have hne:=lz (hl:=fun j=>cG kd sure (bE (p::y::r) i) ((j:Int)-2)) (p:=p) (s:=(mk1,y::r)) (by simp) (ls+2)
     generalize hs':cO (fun j=>cG kd sure (bE (p::y::r) i) ((j:Int)-2)) p (mk1,y::r) (ls+2)=s' at *
     have hr2:r.length≤12:=by       have:r.length+1≤ls+2:=by simpa using hlen
                                    omega
     refine bz (K3 n tk w ls ld zs zd sz kd mk1 (bE (p::y::r)) H p (bE (p::y::r) i) (i:Int) sure r.length (r.length+2) (fJ p .dead s')) (bU (n+4) 1) (ah _ _) (eX (ai _ _) (fun f ps a b _ hm x hx=>?_)) ?_
     · rw[J6] at hm
       simp only[List.mem_cons,Prod.mk.injEq,List.not_mem_nil,or_false] at hm
       obtain ⟨rfl,rfl,rfl,rfl⟩:=hm
       rw[← Tr.ab hx]
       simp only[dg.st,aw]
       exact hr
     · rw[ed,ei]
       repeat' first | (refine Tr.an (fun hc=>?_) (fun hc=>?_)<;>(try simp (disch:=omega) only[nV,nW] at hc)<;>try omega) | (refine Tr.ao ?_ ?_;· (try simp (disch:=omega) only[nV,nW]);try omega) | (refine Tr.ak ?_ ?_;· first | exact trivial | rfl | exact ⟨rfl,rfl⟩ | exact ⟨rfl,rfl,rfl⟩ | (simp (disch:=omega) only[nV,nW];done) | ((try simp (disch:=omega) only[nV,nW]);omega)) | fail
       refine Tr.aq ⟨rfl,?_⟩
       obtain ⟨mk2,r2⟩:=s'
       cases r2 with
       | nil=>exact absurd rfl hne
       | cons y2 r2=>rfl
 · have ei:al 0 (N:Int) 1=N        := by rw[bT];omega
   generalize ky kd sure ls p mk N=s at *
   obtain ⟨mk1,r⟩:=s
   cases r with
   | nil =>
     have:1≤N:=by simpa using n3
     obtain ⟨x,h1,rfl⟩:=bz (Q:=fun x=>x=(.exit 0,n9 tk w ls ld zs zd sz kd sure ((N:Nat):Int)++[(21,.bool false)],A8 p (mk1,[])::H)) (K0 n tk w ls ld zs zd sz kd mk1 H p (N:Int) sure) (bU (n+4) 1) (ah _ _) (eX (ai _ _) (fun f ps a b _ hm x hx=>(Tr.ag hx).elim)) (by
      repeat' first | (refine Tr.an (fun hc=>?_) (fun hc=>?_)<;>(try simp (disch:=omega) only[nV,nW] at hc)<;>try omega) | (refine Tr.ao ?_ ?_;· (try simp (disch:=omega) only[nV,nW]);try omega) | (refine Tr.ak ?_ ?_;· first | exact trivial | rfl | exact ⟨rfl,rfl⟩ | exact ⟨rfl,rfl,rfl⟩ | (simp (disch:=omega) only[nV,nW];done) | ((try simp (disch:=omega) only[nV,nW]);omega)) | fail
      exact Tr.aq rfl)
     exact h1
   | cons y r =>
     have:r.length+2≤N:=by         have:1+(r.length+1)≤N:=by simpa using n3
                                   omega
     obtain ⟨x,h1,rfl⟩:=bz (Q:=fun x=>x=(.exit 0,n9 tk w ls ld zs zd sz kd sure ((N:Nat):Int)++[(21,.bool false)],A8 p (mk1,y::r)::H)) (K1 n tk w ls ld zs zd sz kd mk1 (bE (p::y::r)) H p (N:Int) sure r.length (r.length+2)) (bU (n+4) 1) (ah _ _) (eX (ai _ _) (fun f ps a b _ hm x hx=>(Tr.ag hx).elim)) (by
      repeat' first | (refine Tr.an (fun hc=>?_) (fun hc=>?_)<;>(try simp (disch:=omega) only[nV,nW] at hc)<;>try omega) | (refine Tr.ao ?_ ?_;· (try simp (disch:=omega) only[nV,nW]);try omega) | (refine Tr.ak ?_ ?_;· first | exact trivial | rfl | exact ⟨rfl,rfl⟩ | exact ⟨rfl,rfl,rfl⟩ | (simp (disch:=omega) only[nV,nW];done) | ((try simp (disch:=omega) only[nV,nW]);omega)) | fail
      exact Tr.aq rfl)
     exact h1
end
end Go.Eng
end
