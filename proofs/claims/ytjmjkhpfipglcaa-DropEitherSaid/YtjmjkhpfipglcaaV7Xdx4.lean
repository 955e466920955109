/- Drop: CheckSide of both on a list of one place. -/
import Derived.Test.YtjmjkhpfipglcaaV7Xax3
import Derived.Test.YtjmjkhpfipglcaaV7Wgx5
import Derived.Test.YtjmjkhpfipglcaaV7Xc
import Derived.Test.YtjmjkhpfipglcaaV7DrKx4
import Derived.Test.YtjmjkhpfipglcaaV7EngThx6
import Derived.Test.YtjmjkhpfipglcaaRows
import Derived.Test.YtjmjkhpfipglcaaChecked
import Derived.ProofKit
section
namespace Go.Eng
open Go.Proofs
set_option linter.unusedVariables false
set_option linter.unusedSimpArgs false
set_option maxRecDepth 100000
noncomputable def Pn (p:Int) (f:Int→Bool):List AV→Option (Prop×AV)
 | [a,.int .i64 x]=>some (a=hY p,.bool (f x))
 | _=>none
noncomputable def IJ (w:Int) (ls ld:Nat) (zs zd:Nat→Int) (p:Int) (rest:List (Nat×aj)):b6:=⟨false,(0,.row (.G [.int .i64 w,aU 2 ls zs,aU 3 ld zd]))::(0,.row (.G [hY p]))::(0,.row (.I .i64 [0]))::rest⟩
noncomputable def AZ (w:Int) (ls ld:Nat) (zs zd sz kd:Nat→Int) (p:Int) (sure:Bool):a8:=[(4,.bool sure,none),(8,.ptr 0 1 0 0,none),(10,.ptr 0 2 0 0,none),(11,a9 0 w ls ld zs zd sz kd,none),(62,hY p,none),(63,.int .i64 1,some 1),(64,.int .i64 0,some 1),(71,.fn (.func 110) [] (gv 0 w ls ld zs zd sz kd p sure),none)]
noncomputable def wz (p:Int) (sure:Bool) (j:Int):a8:=[(3,hY p,some 1),(4,.bool sure,none),(5,.ptr 0 0 0 0,none),(12,.int .i64 0,some 1),(13,.int .i64 j,none)]
theorem KR (n:Nat) (w:Int) (ls ld:Nat) (zs zd:Nat→Int) (H:ae) (p j:Int) (sure:Bool) (side:Int→Int→Prop) (hl:Int→Int→Bool):aH (bF (n+7) 40 88) (il (b7 aG 82 (El (aa w ls zs ld zd) sure side hl)) (n+6) 1) aJ aK (part Try.f40 [1,1,1,1,0,1,0,0,1,0,0,1,0,0]) (wz p sure j) (a6 w ls ld zs zd::H) =
 (fun (Z0:a8)=>Tr.ite (bA j (Int.ofNat ls)) (Tr.req (br (Int.ofNat 0) 1) (Tr.ite (aF p j) (Tr.ok (Ex.normal,Z0,a6 w ls ld zs zd::H)) (Tr.req (br (Int.ofNat 0) 1) (Tr.reqP (aa w ls zs ld zd=aa w ls zs ld zd∧side p j∧sure=sure) (Tr.ite (hl p j) (Tr.ok (Ex.ret,[(10,AV.int .i64 (Int.ofNat 14),some 1)],a6 w ls ld zs zd::H)) (Tr.ok (Ex.normal,Z0,a6 w ls ld zs zd::H))))))) (Tr.ok (Ex.exit 4,[(3,AV.slcT none (Row.I .i64 [p]) 1 1 true,some 1),(4,AV.bool sure,none),(5,AV.ptr 0 0 0 0,none),(12,AV.int .i64 (Int.ofNat 0),some 1),(13,AV.int .i64 j,none),(71,AV.bool false,some 1)],a6 w ls ld zs zd::H))) [(3,AV.slcT none (Row.I .i64 [p]) 1 1 true,some 1),(4,AV.bool sure,none),(5,AV.ptr 0 0 0 0,none),(12,AV.int .i64 (Int.ofNat 0),some 1),(13,AV.int .i64 (ay .i64 j (Int.ofNat 1)),none)]:=by kernel_rfl
theorem OJ (n:Nat) (w:Int) (ls ld:Nat) (zs zd sz kd:Nat→Int) (H:ae) (p q:Int) (sure:Bool) (f:Int→Bool):aW Try.prog (cd (n+15)) 100000 39 Try.f39 (Kt.kt 39) (il (b7 (b7 aG 68 (AT (aa w ls zs ld zd) p q (gu w ls ld zs zd sz kd) 0)) 85 (Pn p f)) (n+14) 1) aJ (th aK (fun _=>true) (strip (AZ w ls ld zs zd sz kd p sure)) (IJ w ls ld zs zd p []::H) (.ok (.normal,AZ w ls ld zs zd sz kd p sure,IJ w ls ld zs zd p [(0,.dead)]::H))) [(aa w ls zs ld zd,none),(.int .i64 p,none),(.int .i64 q,none),(hY p,none),(.bool sure,none)] H =
 Tr.reqP (aa w ls zs ld zd=aa w ls zs ld zd∧p=p∧q=q) (Tr.ite (aD (aF (Int.ofNat 0) (Int.ofNat 0))) (Tr.ok ((AV.int .i64 (Int.ofNat 0),none),H)) (Tr.ite (bA (Int.ofNat 0) (Int.ofNat 1)) (Tr.req (br (Int.ofNat 0) 1) (Tr.ite (dA (Int.negSucc 1) p) (Tr.ite (aD (bA p (Int.ofNat ls))) (Tr.ok ((AV.int .i64 (Int.ofNat 3),none),H)) (Tr.ite (bA (Int.ofNat 1) (Int.ofNat 1)) (Tr.req (br (Int.ofNat 1) 1) Tr.bad) (Tr.reqP (AV.slcT none (Row.I .i64 [p]) 1 1 true=AV.slcT none (Row.I .i64 [p]) 1 1 true) (Tr.ite (aD (f p)) (Tr.ok ((AV.int .i64 (Int.ofNat 14),none),H)) (Tr.reqP (AV.slcT none (Row.I .i64 [p]) 1 1 true=AV.slcT none (Row.I .i64 [p]) 1 1 true) (Tr.ite (f q) (Tr.ok ((AV.int .i64 (Int.ofNat 14),none),H)) (Tr.ite (bA (Int.ofNat 0) (Int.ofNat 1)) (Tr.req (br (Int.ofNat 0) 1) (Tr.reqP ([(4,AV.bool sure),(8,AV.ptr 0 1 0 0),(10,AV.ptr 0 2 0 0),(11,a9 0 w ls ld zs zd sz kd),(62,AV.slcT none (Row.I .i64 [p]) 1 1 true),(63,AV.int .i64 (Int.ofNat 1)),(64,AV.int .i64 (Int.ofNat 0)),(71,AV.fn (Fn.func 110) [] [AV.ptrT (some 0) (Row.G [a9 0 w ls ld zs zd sz kd]) 0,AV.ptrT none (Row.I .i64 [p]) 0,AV.ptrT (some 0) (Row.G [AV.bool sure]) 0])]=[(4,AV.bool sure),(8,AV.ptr 0 1 0 0),(10,AV.ptr 0 2 0 0),(11,a9 0 w ls ld zs zd sz kd),(62,AV.slcT none (Row.I .i64 [p]) 1 1 true),(63,AV.int .i64 (Int.ofNat 1)),(64,AV.int .i64 (Int.ofNat 0)),(71,AV.fn (Fn.func 110) [] [AV.ptrT (some 0) (Row.G [a9 0 w ls ld zs zd sz kd]) 0,AV.ptrT none (Row.I .i64 [p]) 0,AV.ptrT (some 0) (Row.G [AV.bool sure]) 0])]∧{ lock:=false,bs:=[(0,aj.row (Row.G [AV.int .i64 w,aU 2 ls zs,aU 3 ld zd])),(0,aj.row (Row.G [AV.slcT none (Row.I .i64 [p]) 1 1 true])),(0,aj.row (Row.I .i64 [Int.ofNat 0]))] } :: H={ lock:=false,bs:=[(0,aj.row (Row.G [AV.int .i64 w,aU 2 ls zs,aU 3 ld zd])),(0,aj.row (Row.G [AV.slcT none (Row.I .i64 [p]) 1 1 true])),(0,aj.row (Row.I .i64 [Int.ofNat 0]))] } :: H) (Tr.ok ((AV.int .i64 (Int.ofNat 0),none),H)))) (Tr.ok ((AV.int .i64 (Int.ofNat 0),none),H))))))))) (Tr.ok ((AV.int .i64 (Int.ofNat 3),none),H)))) (Tr.reqP (AV.slcT none (Row.I .i64 [p]) 1 1 true=AV.slcT none (Row.I .i64 [p]) 1 1 true) (Tr.ite (aD (f p)) (Tr.ok ((AV.int .i64 (Int.ofNat 14),none),H)) (Tr.reqP (AV.slcT none (Row.I .i64 [p]) 1 1 true=AV.slcT none (Row.I .i64 [p]) 1 1 true) (Tr.ite (f q) (Tr.ok ((AV.int .i64 (Int.ofNat 14),none),H)) (Tr.ite (bA (Int.ofNat 0) (Int.ofNat 1)) (Tr.req (br (Int.ofNat 0) 1) (Tr.reqP ([(4,AV.bool sure),(8,AV.ptr 0 1 0 0),(10,AV.ptr 0 2 0 0),(11,a9 0 w ls ld zs zd sz kd),(62,AV.slcT none (Row.I .i64 [p]) 1 1 true),(63,AV.int .i64 (Int.ofNat 1)),(64,AV.int .i64 (Int.ofNat 0)),(71,AV.fn (Fn.func 110) [] [AV.ptrT (some 0) (Row.G [a9 0 w ls ld zs zd sz kd]) 0,AV.ptrT none (Row.I .i64 [p]) 0,AV.ptrT (some 0) (Row.G [AV.bool sure]) 0])]=[(4,AV.bool sure),(8,AV.ptr 0 1 0 0),(10,AV.ptr 0 2 0 0),(11,a9 0 w ls ld zs zd sz kd),(62,AV.slcT none (Row.I .i64 [p]) 1 1 true),(63,AV.int .i64 (Int.ofNat 1)),(64,AV.int .i64 (Int.ofNat 0)),(71,AV.fn (Fn.func 110) [] [AV.ptrT (some 0) (Row.G [a9 0 w ls ld zs zd sz kd]) 0,AV.ptrT none (Row.I .i64 [p]) 0,AV.ptrT (some 0) (Row.G [AV.bool sure]) 0])]∧{ lock:=false,bs:=[(0,aj.row (Row.G [AV.int .i64 w,aU 2 ls zs,aU 3 ld zd])),(0,aj.row (Row.G [AV.slcT none (Row.I .i64 [p]) 1 1 true])),(0,aj.row (Row.I .i64 [Int.ofNat 0]))] } :: H={ lock:=false,bs:=[(0,aj.row (Row.G [AV.int .i64 w,aU 2 ls zs,aU 3 ld zd])),(0,aj.row (Row.G [AV.slcT none (Row.I .i64 [p]) 1 1 true])),(0,aj.row (Row.I .i64 [Int.ofNat 0]))] } :: H) (Tr.ok ((AV.int .i64 (Int.ofNat 0),none),H)))) (Tr.ok ((AV.int .i64 (Int.ofNat 0),none),H))))))))):=by kernel_rfl
theorem ON (n:Nat) (w:Int) (ls ld:Nat) (zs zd:Nat→Int) (H:ae) (p q:Int) (sure:Bool):aW Try.prog (cd (n+7)) 100000 40 Try.f40 (Kt.kt 40) (il (b7 aG 70 (Gc (aa w ls zs ld zd) p q 0)) (n+5) 2) (dc aJ 4 (strip (wz p sure (-2))) (a6 w ls ld zs zd::H) (.ok (.normal,wz p sure (Int.ofNat ls)++[(71,.bool false,none)],a6 w ls ld zs zd::H))) aK [(aa w ls zs ld zd,none),(.int .i64 p,none),(.int .i64 q,none),(hY p,none),(.bool sure,none)] H =
 (fun (Z0:aO)=>((fun (Z1:AV×Option Nat)=>((fun (Z2:AV×Option Nat)=>Tr.reqP (aa w ls zs ld zd=aa w ls zs ld zd∧p=p∧q=q) (Tr.ite (aD (aF (Int.ofNat 0) (Int.ofNat 0))) (Tr.reqP (aa w ls zs ld zd=aa w ls zs ld zd∧p=p∧q=q) (Tr.ok ((AV.int .i64 (Int.ofNat 0),none),H))) (Tr.ite (bA (Int.ofNat 0) (Int.ofNat 1)) (Tr.req (br (Int.ofNat 0) 1) (Tr.ite (aF p (Int.negSucc 0)) (Tr.ite (bA (Int.ofNat 1) (Int.ofNat 1)) (Tr.req (br (Int.ofNat 1) 1) Tr.bad) (Tr.ite (bA (Int.ofNat 0) (Int.ofNat 1)) (Tr.req (br (Int.ofNat 0) 1) (Tr.ite (aF p p) (Tr.ite (bA (Int.ofNat 0) (Int.ofNat 1)) (Tr.req (br (Int.ofNat 0) 1) (Tr.ite (aF p q) (Tr.ok (Z2,H)) (Tr.ite (bA (Int.ofNat 1) (Int.ofNat 1)) (Tr.req (br (Int.ofNat 1) 1) Tr.bad) (Tr.ite (bA (Int.ofNat 0) (Int.ofNat 1)) (Tr.reqP (Z0=Z0∧a6 w ls ld zs zd::H=a6 w ls ld zs zd::H) (Tr.ok (Z1,H))) (Tr.ok (Z1,H)))))) (Tr.ite (bA (Int.ofNat 0) (Int.ofNat 1)) (Tr.reqP (Z0=Z0∧a6 w ls ld zs zd::H=a6 w ls ld zs zd::H) (Tr.ok (Z1,H))) (Tr.ok (Z1,H)))) (Tr.ite (bA (Int.ofNat 1) (Int.ofNat 1)) (Tr.req (br (Int.ofNat 1) 1) Tr.bad) (Tr.ok (Z2,H))))) (Tr.ok (Z2,H)))) (Tr.ite (aF p (Int.negSucc 1)) (Tr.ite (bA (Int.ofNat 1) (Int.ofNat 1)) (Tr.req (br (Int.ofNat 1) 1) Tr.bad) (Tr.ite (bA (Int.ofNat 0) (Int.ofNat 1)) (Tr.req (br (Int.ofNat 0) 1) (Tr.ite (aF p p) (Tr.ite (bA (Int.ofNat 0) (Int.ofNat 1)) (Tr.req (br (Int.ofNat 0) 1) (Tr.ite (aF p q) (Tr.ok (Z2,H)) (Tr.ite (bA (Int.ofNat 1) (Int.ofNat 1)) (Tr.req (br (Int.ofNat 1) 1) Tr.bad) (Tr.ite (bA (Int.ofNat 0) (Int.ofNat 1)) (Tr.reqP (Z0=Z0∧a6 w ls ld zs zd::H=a6 w ls ld zs zd::H) (Tr.ok (Z1,H))) (Tr.ok (Z1,H)))))) (Tr.ite (bA (Int.ofNat 0) (Int.ofNat 1)) (Tr.reqP (Z0=Z0∧a6 w ls ld zs zd::H=a6 w ls ld zs zd::H) (Tr.ok (Z1,H))) (Tr.ok (Z1,H)))) (Tr.ite (bA (Int.ofNat 1) (Int.ofNat 1)) (Tr.req (br (Int.ofNat 1) 1) Tr.bad) (Tr.ok (Z2,H))))) (Tr.ok (Z2,H)))) (Tr.ite (dA (Int.ofNat 0) p) (Tr.ite (aD (bA p (Int.ofNat ls))) (Tr.ok ((AV.int .i64 (Int.ofNat 3),some 1),H)) (Tr.ite (bA (Int.ofNat 1) (Int.ofNat 1)) (Tr.req (br (Int.ofNat 1) 1) Tr.bad) (Tr.ite (bA (Int.ofNat 0) (Int.ofNat 1)) (Tr.req (br (Int.ofNat 0) 1) (Tr.ite (aF p p) (Tr.ite (bA (Int.ofNat 0) (Int.ofNat 1)) (Tr.req (br (Int.ofNat 0) 1) (Tr.ite (aF p q) (Tr.ok (Z2,H)) (Tr.ite (bA (Int.ofNat 1) (Int.ofNat 1)) (Tr.req (br (Int.ofNat 1) 1) Tr.bad) (Tr.ite (bA (Int.ofNat 0) (Int.ofNat 1)) (Tr.reqP (Z0=Z0∧a6 w ls ld zs zd::H=a6 w ls ld zs zd::H) (Tr.ok (Z1,H))) (Tr.ok (Z1,H)))))) (Tr.ite (bA (Int.ofNat 0) (Int.ofNat 1)) (Tr.reqP (Z0=Z0∧a6 w ls ld zs zd::H=a6 w ls ld zs zd::H) (Tr.ok (Z1,H))) (Tr.ok (Z1,H)))) (Tr.ite (bA (Int.ofNat 1) (Int.ofNat 1)) (Tr.req (br (Int.ofNat 1) 1) Tr.bad) (Tr.ok (Z2,H))))) (Tr.ok (Z2,H))))) (Tr.ok ((AV.int .i64 (Int.ofNat 3),some 1),H)))))) (Tr.ite (bA (Int.ofNat 0) (Int.ofNat 1)) (Tr.req (br (Int.ofNat 0) 1) (Tr.ite (aF p p) (Tr.ite (bA (Int.ofNat 0) (Int.ofNat 1)) (Tr.req (br (Int.ofNat 0) 1) (Tr.ite (aF p q) (Tr.ok (Z2,H)) (Tr.ite (bA (Int.ofNat 1) (Int.ofNat 1)) (Tr.req (br (Int.ofNat 1) 1) Tr.bad) (Tr.ite (bA (Int.ofNat 0) (Int.ofNat 1)) (Tr.reqP (Z0=Z0∧a6 w ls ld zs zd::H=a6 w ls ld zs zd::H) (Tr.ok (Z1,H))) (Tr.ok (Z1,H)))))) (Tr.ite (bA (Int.ofNat 0) (Int.ofNat 1)) (Tr.reqP (Z0=Z0∧a6 w ls ld zs zd::H=a6 w ls ld zs zd::H) (Tr.ok (Z1,H))) (Tr.ok (Z1,H)))) (Tr.ite (bA (Int.ofNat 1) (Int.ofNat 1)) (Tr.req (br (Int.ofNat 1) 1) Tr.bad) (Tr.ok (Z2,H))))) (Tr.ok (Z2,H)))))) (AV.int .i64 (Int.ofNat 14),some 1))) (AV.int .i64 (Int.ofNat 0),some 1))) [(3,AV.slcT none (Row.I .i64 [p]) 1 1 true),(4,AV.bool sure),(5,AV.ptr 0 0 0 0),(12,AV.int .i64 (Int.ofNat 0)),(13,AV.int .i64 (Int.negSucc 1))]:=by kernel_rfl
noncomputable def CW (w:Int) (ls ld:Nat) (zs zd sz kd:Nat→Int) (p:Int) (sure:Bool):bw:={ state:=.ready,pending:=none,fn:=39,nt:=78,fr:=strip (AZ w ls ld zs zd sz kd p sure),params:=[72],assign:=Ft,body:=Dx }
theorem NS:cM (aL Try.f39)=[(.tmp 71,#[72],Ft,Dx)]:=by kernel_rfl
theorem LK:∀ b,(4,b) ∈ av (aL Try.f40)→b=.loop (part Try.f40 [1,1,1,1,0,1,0,0,1,0,0,1,0,0]):=by
 have:((av (aL Try.f40)).filter fun x=>Nat.beq x.1 4)=[(4,.loop (part Try.f40 [1,1,1,1,0,1,0,0,1,0,0,1,0,0]))]:=by kernel_rfl
 intro b hb
 have hm:(4,b) ∈ ((av (aL Try.f40)).filter fun x=>Nat.beq x.1 4):=List.mem_filter.2 ⟨hb,rfl⟩
 rw[this] at hm;simpa using hm
section
variable (n:Nat) (w:Int) (ls ld:Nat) (zs zd sz kd:Nat→Int) (H:ae) (p q:Int) (sure:Bool)
theorem J9 (hls:ls≤10) (hp:-2≤p∧p<ls) (ho:∀ j:Nat,j<ls+2→cG kd sure p ((j:Int)-2)=false):exec (bF (n+14) 39 78) (.rangeFunc (.tmp 71) #[72] Ft Dx) (strip (AZ w ls ld zs zd sz kd p sure)) (IJ w ls ld zs zd p []::H) =
 some (.normal,strip (AZ w ls ld zs zd sz kd p sure),IJ w ls ld zs zd p [(0,.dead)]::H):=by
 have hN:iK 3 (n+9) ls kd p sure (fun _=>IJ w ls ld zs zd p [(0,.loop (CW w ls ld zs zd sz kd p sure))]::H) (fun _=>[]) (fun _=>true):={ hit:=fun j hj hh=>(by rw[ho j hj] at hh;cases hh),skip:=fun j hj hh=>rfl }
 have hn:=AF 3 (n+9) 0 w ls ld zs zd sz kd p sure hN hp hls
 rw[jh (fun j hj=>by unfold dC;rw[ho j hj];rfl),if_neg (by decide)] at hn
 exact c5 (cx:=bF (n+14) 39 78) (l:=CW w ls ld zs zd sz kd p sure) (f:=.tmp 71) (ps:=#[72]) (fr:=strip (AZ w ls ld zs zd sz kd p sure)) (H:=IJ w ls ld zs zd p []::H) (g:=110) (a:=[]) (b:=gv 0 w ls ld zs zd sz kd p sure) (e:=.normal) rfl rfl rfl hn rfl rfl rfl
theorem ND (h:bN w ls ld zs zd=0) (hp:-2≤p∧p<ls) (ho:∀ j:Nat,j<ls+2→p≠(j:Int)-2→dx w ld zs zd sure p ((j:Int)-2)=false):exec (bF (n+7) 40 88) (.block 4 (.loop (part Try.f40 [1,1,1,1,0,1,0,0,1,0,0,1,0,0]))) (strip (wz p sure (-2))) (a6 w ls ld zs zd::H)=some (.normal,strip (wz p sure (Int.ofNat ls)++[(71,.bool false,none)]),a6 w ls ld zs zd::H):=by
 have hc:=eY h
 have hil:(il (b7 aG 82 (El (aa w ls zs ld zd) sure (fun p q=>bx ls p=true∧bx ls q=true) (dx w ld zs zd sure))) (n+6) 1).Ok (cd (n+7)):=by
  refine bQ _ (n+6) 1 (fun k=>bI (bB _) (fun args p' v hg hp' H=>?_))
  unfold El at hg
  split at hg
  · simp only[nP] at hg
    obtain ⟨rfl,rfl⟩:=hg
    obtain ⟨rfl,hs,rfl⟩:=hp'
    rw[show n+6+k=n+k+6 by omega]
    exact L9 _ w ls ld zs zd H _ _ _ (pc h hs.1 hs.2)
  · cases hg
 have:=uE (n:=n+7) (f:=40) (nt:=88) (c:=part Try.f40 [1,1,1,1,0,1,0,0,1,0,0,1,0,0]) 4 (fun j=>strip (wz p sure ((j:Int)-2))) (fun _=>a6 w ls ld zs zd::H) (ls+2) (strip (wz p sure (Int.ofNat ls)++[(71,.bool false,none)]),a6 w ls ld zs zd::H) (by omega) (fun j hj=>?_) ?_
 · exact this
 · have ej:ay .i64 ((j:Int)-2) (Int.ofNat 1)=((j+1:Nat):Int)-2:=by rw[aR,show Int.ofNat 1=1 from rfl,bX (by omega) (by omega)];omega
   have hpl:bx ls p=true:=by simp[bx];omega
   have hjl:bx ls ((j:Int)-2)=true:=by simp[bx];omega
   have h3:=ho j hj
   refine uC (KR n w ls ld zs zd H p ((j:Int)-2) sure _ _) hil (ah _ _) (ai _ _) ?_
   generalize dx w ld zs zd sure=hl at *
   repeat' first | (refine Tr.an (fun hc=>?_) (fun hc=>?_)<;>(try simp (disch:=omega) only[nV,nW,hpl,hjl,and_self] at hc)<;>try omega) | (refine Tr.ao ?_ ?_;· (try simp (disch:=omega) only[nV,nW,hpl,hjl,and_self]);try omega) | (refine Tr.ak ?_ ?_;· first | exact trivial | rfl | exact ⟨rfl,rfl⟩ | exact ⟨rfl,rfl,rfl⟩ | (simp (disch:=omega) only[nV,nW,hpl,hjl,and_self];done) | ((try simp (disch:=omega) only[nV,nW,hpl,hjl,and_self]);omega)) | fail
   all_goals first
    | (exfalso;have:=h3 (by omega);simp_all;done)
    | (refine Tr.aq ⟨rfl,?_⟩;rw[ej];rfl)
    | fail
 · obtain ⟨x,h1,rfl⟩:=uC (Q:=fun x=>x=(.exit 4,strip (wz p sure (Int.ofNat ls)++[(71,.bool false,none)]),a6 w ls ld zs zd::H)) (KR n w ls ld zs zd H p (Int.ofNat ls) sure _ _) hil (ah _ _) (ai _ _) (by
    repeat' first | (refine Tr.an (fun hc=>?_) (fun hc=>?_)<;>(try simp (disch:=omega) only[nV,nW] at hc)<;>try omega) | (refine Tr.ao ?_ ?_;· (try simp (disch:=omega) only[nV,nW]);try omega) | (refine Tr.ak ?_ ?_;· first | exact trivial | rfl | exact ⟨rfl,rfl⟩ | exact ⟨rfl,rfl,rfl⟩ | (simp (disch:=omega) only[nV,nW];done) | ((try simp (disch:=omega) only[nV,nW]);omega)) | fail
    all_goals exact Tr.aq rfl)
   rw[show (((ls+2:Nat):Int))-2=Int.ofNat ls by rw[da];omega]
   exact h1
theorem LZ (he:ij w ls ld zs zd p q=0) (ho:∀ j:Nat,j<ls+2→p≠(j:Int)-2→dx w ld zs zd sure p ((j:Int)-2)=false):cd (n+16) (.fn 39) [aa w ls zs ld zd,.int .i64 p,.int .i64 q,hY p,.bool sure] H=some (.int .i64 0,H):=by
 obtain ⟨h,h1,h2,h3⟩:=g7 he
 simp only[bx,Bool.and_eq_true,decide_eq_true_eq] at h1 h2
 have c:=iL h
 have hk:∀ j:Nat,j<ls+2→cG (dR w ls ld zs zd) sure p ((j:Int)-2)=false:=fun j hj=>by
  cases e:cG (dR w ls ld zs zd) sure p ((j:Int)-2) with
  | false=>rfl
  | true =>
    obtain ⟨a,b⟩:=(gJ h h1 (by omega)).1 e
    rw[ho j hj a] at b;cases b
 obtain ⟨f,hf⟩:∃ f:Int→Bool,∀ x,f x=decide (x=p):=⟨_,fun _=>rfl⟩
 have e1:f p=true:=by rw[hf];simp
 have e2:f q=false:=by rw[hf];exact decide_eq_false (fun x=>h3 x.symm)
 refine bp (n:=n+15) Try.func39 rfl rfl rfl (OJ n w ls ld zs zd (ft zd ld) (dR w ls ld zs zd) H p q sure f) (bQ _ (n+14) 1 (fun k=>bI (qY n w ls ld zs zd p q k _ _ (uZ w ls ld zs zd p q he) he.symm) (fun args p' v hg hp' H=>?_))) (ah _ _) (eX (ai _ _) (fun f ps a b _ hm x hx=>?_)) ?_
 · unfold Pn at hg
   split at hg
   · simp only[nP] at hg
     obtain ⟨rfl,rfl⟩:=hg
     obtain rfl:=hp'
     rw[show n+14+k=n+12+k+2 by omega]
     rw[hf]
     exact Jb _ H p _
   · cases hg
 · rw[NS] at hm
   simp only[List.mem_cons,Prod.mk.injEq,List.not_mem_nil,or_false] at hm
   obtain ⟨rfl,rfl,rfl,rfl⟩:=hm
   rw[← Tr.ab hx]
   exact J9 (n+1) w ls ld zs zd _ _ H p sure (by omega) h1 hk
 · have e1:decide (p=p)=true:=decide_eq_true rfl
   have e2:decide (q=p)=false:=decide_eq_false (fun x=>h3 x.symm)
   repeat' first | (refine Tr.an (fun hc=>?_) (fun hc=>?_)<;>(try simp (disch:=omega) only[nV,nW,e1,e2] at hc)<;>try omega) | (refine Tr.ao ?_ ?_;· (try simp (disch:=omega) only[nV,nW,e1,e2]);try omega) | (refine Tr.ak ?_ ?_;· first | exact trivial | rfl | exact ⟨rfl,rfl⟩ | exact ⟨rfl,rfl,rfl⟩ | (simp (disch:=omega) only[nV,nW,e1,e2];done) | ((try simp (disch:=omega) only[nV,nW,e1,e2]);omega)) | fail
   all_goals first
    | exact Tr.aq ⟨rfl,rfl⟩
    | (exfalso;simp_all;done)
    | fail
theorem L2 (he:ij w ls ld zs zd p q=0) (ho:∀ j:Nat,j<ls+2→p≠(j:Int)-2→dx w ld zs zd sure p ((j:Int)-2)=false):cd (n+8) (.fn 40) [aa w ls zs ld zd,.int .i64 p,.int .i64 q,hY p,.bool sure] H=some (.int .i64 0,H):=by
 obtain ⟨h,h1,h2,h3⟩:=g7 he
 simp only[bx,Bool.and_eq_true,decide_eq_true_eq] at h1 h2
 have c:=iL h
 refine bp (n:=n+7) Try.func40 rfl rfl rfl (ON n w ls ld zs zd H p q sure) (bQ _ (n+5) 2 (fun k=>bI (bB _) (fun args p' v hg hp' H=>?_))) (bf (ah _ _) LK (fun x hx=>by rw[← Tr.ab hx];exact ND n w ls ld zs zd H p sure h h1 ho)) (ai _ _) ?_
 · unfold Gc at hg
   split at hg
   · simp only[nP] at hg
     obtain ⟨rfl,rfl⟩:=hg
     obtain ⟨rfl,a1,a2⟩:=hp'
     rw[a1,a2,show n+5+k=n+k+5 by omega]
     have:=Pj (n+k) w ls ld zs zd H p q
     rw[he] at this
     exact this
   · cases hg
 · repeat' first | (refine Tr.an (fun hc=>?_) (fun hc=>?_)<;>(try simp (disch:=omega) only[nV,nW] at hc)<;>try omega) | (refine Tr.ao ?_ ?_;· (try simp (disch:=omega) only[nV,nW]);try omega) | (refine Tr.ak ?_ ?_;· first | exact trivial | rfl | exact ⟨rfl,rfl⟩ | exact ⟨rfl,rfl,rfl⟩ | (simp (disch:=omega) only[nV,nW];done) | ((try simp (disch:=omega) only[nV,nW]);omega)) | fail
   all_goals exact Tr.aq ⟨rfl,rfl⟩
end
end Go.Eng
end
section
namespace Go.Eng
open Go.Proofs
set_option linter.unusedVariables false
set_option linter.unusedSimpArgs false
section
variable {w:Int} {ls ld:Nat} {zs zd:Nat→Int} {sure:Bool} {p q:Int}
end
end Go.Eng
end
section
namespace Go.Eng
open Go.Proofs
set_option linter.unusedVariables false
set_option linter.unusedSimpArgs false
set_option maxRecDepth 100000
theorem b9:∀ b,(0,b) ∈ av (aL Try.f9)→b=.loop (part Try.f9 [1,1,1,1,1,1,1,1,0,1,0,1,1,0,1,0,0]):=by
 have:((av (aL Try.f9)).filter fun x=>Nat.beq x.1 0)=[(0,.loop (part Try.f9 [1,1,1,1,1,1,1,1,0,1,0,1,1,0,1,0,0]))]:=by kernel_rfl
 intro b hb
 have hm:(0,b) ∈ ((av (aL Try.f9)).filter fun x=>Nat.beq x.1 0):=List.mem_filter.2 ⟨hb,rfl⟩
 rw[this] at hm;simpa using hm
noncomputable def DA (w:Int) (ls ld:Nat) (zs zd:Nat→Int) (sure:Bool):AV→Int
 | .slcT _ (.M [.arr _ z _]) _ m _=>xQ w ls ld zs zd (dx w ld zs zd sure) m z
 | _=>0
noncomputable def C6 (w:Int) (ls ld:Nat) (zs zd:Nat→Int) (sure:Bool) (p q:Int):AV→Int
 | .slcT _ (.M [.arr _ z _]) _ m _=>AK w ls ld zs zd sure p q m z
 | _=>0
def Hr (l:AV):Prop:=∃ m z f,m≤1000∧l=bn m z f
def Dv (p:Int) (l:AV):Prop:=l=hY p∨∃ m z,m≤1000∧l=bn m z false
def yo (l:AV):Prop:=∃ m z,m≤1000∧l=bn m z false
section
variable (n:Nat) (w:Int) (ls ld lb lm lk:Nat) (zs zd zb zm zk:Nat→Int) (H:ae) (a b p q:Int) (sure:Bool)
theorem Jj {f k:Nat} {P:AV→Prop} {F:AV→Int} {B:AV} {t:lR} (ht:t.Ok (cd k)) (h:∀ l H,P l→cd k (.fn f) [B,l,.bool sure] H=some (.int .i64 (F l),H)):(b7 t f (Gd B sure P F)).Ok (cd k):=by
 refine bI ht (fun args x v hg hp H=>?_)
 unfold Gd at hg
 split at hg
 · simp only[nP] at hg
   obtain ⟨rfl,rfl⟩:=hg
   obtain ⟨rfl,rfl,hp⟩:=hp
   exact h _ H hp
 · cases hg
theorem Jk {f k:Nat} {P:AV→Prop} {F:AV→Int} {B:AV} {t:lR} (ht:t.Ok (cd k)) (h:∀ l H,P l→cd k (.fn f) [B,.int .i64 p,.int .i64 q,l,.bool sure] H=some (.int .i64 (F l),H)):(b7 t f (Em B p q sure P F)).Ok (cd k):=by
 refine bI ht (fun args x v hg hp H=>?_)
 unfold Em at hg
 split at hg
 · simp only[nP] at hg
   obtain ⟨rfl,rfl⟩:=hg
   obtain ⟨rfl,rfl,rfl,rfl,hp⟩:=hp
   exact h _ H hp
 · cases hg
theorem Mh {k:Nat} {t:lR} (ht:t.Ok (cd (k+3))) (hl:ls≤15) (ha:0≤a∧a≤255) (hb:0≤b∧b≤255) (hp:p=pX ls a) (hq:q=tn ls a b):(b7 t 43 (AS (aa w ls zs ld zd) a b p q)).Ok (cd (k+3)):=by
 subst hp hq
 refine bI ht (fun args x v hg hp H=>?_)
 unfold AS at hg
 split at hg
 · simp only[nP] at hg
   obtain ⟨rfl,rfl⟩:=hg
   obtain ⟨rfl,rfl,rfl⟩:=hp
   exact I9 _ w ls ld zs zd H _ _ hl ha hb
 · cases hg
theorem Mg {k:Nat} {t:lR} (ht:t.Ok (cd (k+1))) (h:bN w ls ld zs zd=0) (hlb:lb<2 ^ 40) (hb:∀ i,0≤zb i∧zb i≤65535) {T:AV} (hT:T=yM lb zb zd ld):(b7 t 42 (IH (aa w ls zs ld zd) (vG lb zb) T)).Ok (cd (k+1)):=by
 subst hT
 obtain ⟨h1,h2,h3,h4,h5,h6⟩:=iL h
 refine bI ht (fun args x v hg hp H=>?_)
 unfold IH at hg
 split at hg
 · simp only[nP] at hg
   obtain ⟨rfl,rfl⟩:=hg
   obtain ⟨rfl,rfl⟩:=hp
   exact PN _ w ls ld lb zs zd zb H h2 hlb hb h6
 · cases hg
theorem l9 (h:bN w ls ld zs zd=0) (hb:∀ i,0≤zb i∧zb i≤65535) (tr:Nat→Int) (hT:aU 1 ld tr=yM lb zb zd ld) (m:Nat) (y:Nat→Int) (hy:vI ls (dx w ld zs zd sure) m y):∃ jx:Int,exec (bF (n+20) 9 232) (.block 0 (.loop (part Try.f9 [1,1,1,1,1,1,1,1,0,1,0,1,1,0,1,0,0]))) (Ce m ld y tr sure 1) (Cs w ls ld zs zd a b::H)=some (.normal,Ce m ld y tr sure jx++[(179,.bool false)],Cs w ls ld zs zd a b::H):=by
 have ck:=iL h
 have h1:=hy.lo
 have h2:=hy.hi
 have hil:(il (b7 aG 46 (Hh (aa w ls zs ld zd) (aU 1 ld tr) (fun p q=>bx ls p=true∧bx ls q=true) (fun p q=>aV w zs (Aj lb zb zd ld) p q))) (n+20) 0).Ok (cd (n+20)):=by
  refine bQ _ (n+20) 0 (fun k=>bI (bB _) (fun args x v hg hp H=>?_))
  unfold Hh at hg
  split at hg
  · simp only[nP] at hg
    obtain ⟨rfl,rfl⟩:=hg
    obtain ⟨rfl,rfl,hs⟩:=hp
    rw[show n+20+k=n+17+k+3 by omega,hT]
    exact L5 _ w ls ld lb zs zd zb H _ _ (by omega) (sE h hb hs.1 hs.2)
  · cases hg
 have ej:∀ j:Nat,j<100→ay .i64 ((j:Int)+1) (Int.ofNat 1)=((j+1:Nat):Int)+1:=fun j hj=>by rw[aR,show Int.ofNat 1=1 from rfl,bX (by omega) (by omega)];omega
 have es:∀ j:Nat,j<100→az .i64 ((j:Int)+1) (Int.ofNat 1)=(j:Int):=fun j hj=>by rw[aQ,show Int.ofNat 1=1 from rfl,bX (by omega) (by omega)];omega
 cases sure with
 | false =>
   refine ⟨1,?_⟩
   have:=uE (n:=n+20) (f:=9) (nt:=232) (c:=part Try.f9 [1,1,1,1,1,1,1,1,0,1,0,1,1,0,1,0,0]) 0 (fun j=>Ce m ld y tr false ((j:Int)+1)) (fun _=>Cs w ls ld zs zd a b::H) 0 (Ce m ld y tr false 1++[(179,.bool false)],Cs w ls ld zs zd a b::H) (by omega) (fun j hj=>absurd hj (by omega)) ?_
   · exact this
   · obtain ⟨x,h1,rfl⟩:=bz (Q:=fun x=>x=(.exit 0,Ce m ld y tr false 1++[(179,.bool false)],Cs w ls ld zs zd a b::H)) (t9 n w ls ld m zs zd y tr H a b 1 false _ _) hil (ah _ _) (ai _ _) (by
      refine Tr.an (fun hc=>?_) (fun hc=>?_)
      · refine Tr.an (fun hc=>by cases hc) (fun hc=>?_)
        exact Tr.aq rfl
      · exact Tr.aq rfl)
     exact h1
 | true =>
   refine ⟨((m-1:Nat):Int)+1,?_⟩
   have:=uE (n:=n+20) (f:=9) (nt:=232) (c:=part Try.f9 [1,1,1,1,1,1,1,1,0,1,0,1,1,0,1,0,0]) 0 (fun j=>Ce m ld y tr true ((j:Int)+1)) (fun _=>Cs w ls ld zs zd a b::H) (m-1) (Ce m ld y tr true (((m-1:Nat):Int)+1)++[(179,.bool false)],Cs w ls ld zs zd a b::H) (by omega) (fun j hj=>?_) ?_
   · exact this
   · have a1:=hy.pl j (by omega)
     have a2:=hy.pl (j+1) (by omega)
     have hsd:bx ls (y j)=true∧bx ls (y (j+1))=true:=⟨by simp[bx];omega,by simp[bx];omega⟩
     have ht:aV w zs (Aj lb zb zd ld) (y j) (y (j+1))=true:=Df h hb a1 a2 (hy.hh j (by omega))
     have e0:al 0 (j:Int) 1=j:=by rw[bT];omega
     have e1:al 0 ((j:Int)+1) 1=j+1:=by rw[bT];omega
     refine bz (t9 n w ls ld m zs zd y tr H a b ((j:Int)+1) true _ _) hil (ah _ _) (ai _ _) ?_
     rw[es j (by omega),ej j (by omega),e0,e1,ht]
     repeat' first | (refine Tr.an (fun hc=>?_) (fun hc=>?_)<;>(try simp (disch:=omega) only[nV,nW,hsd,and_self,and_true,true_and] at hc)<;>try omega) | (refine Tr.ao ?_ ?_;· (try simp (disch:=omega) only[nV,nW,hsd,and_self,and_true,true_and]);try omega) | (refine Tr.ak ?_ ?_;· first | exact trivial | rfl | exact ⟨rfl,rfl⟩ | exact ⟨rfl,rfl,rfl⟩ | (simp (disch:=omega) only[nV,nW,hsd,and_self,and_true,true_and];done) | ((try simp (disch:=omega) only[nV,nW,hsd,and_self,and_true,true_and]);omega)) | fail
     all_goals exact Tr.aq ⟨rfl,rfl⟩
   · obtain ⟨x,h1,rfl⟩:=bz (Q:=fun x=>x=(.exit 0,Ce m ld y tr true (((m-1:Nat):Int)+1)++[(179,.bool false)],Cs w ls ld zs zd a b::H)) (t9 n w ls ld m zs zd y tr H a b (((m-1:Nat):Int)+1) true _ _) hil (ah _ _) (ai _ _) (by
      refine Tr.an (fun hc=>?_) (fun hc=>?_)
      · exfalso;rw[cj,decide_eq_true_eq] at hc;have:Int.ofNat m=(m:Int):=rfl;omega
      · exact Tr.aq rfl)
     exact h1
theorem ET {a b:Int}:dx w 0 zs zd sure a b=false:=by
 have t:∀ h,aV w zs (lN h zd 0) a b=false:=fun h=>by
  have z:∀ s,lN h zd 0 s=0:=fun _=>rfl
  unfold aV
  split
  · rfl
  · simp only[z,if_true]
 unfold dx jZ
 rw[t,t]
 cases sure<;>rfl
theorem BZ (k:Nat) {t:lR} (ht:t.Ok (cd (k+16))):(b7 t 32 (Gd (aa w ls zs ld zd) sure Hr (DA w ls ld zs zd sure))).Ok (cd (k+16)):=Jj sure ht (fun l H hl=>by
 obtain ⟨m,z,f,hm,rfl⟩:=hl
 have:=PJ k w ls ld m zs zd z H sure f
 rw[Jl] at this
 exact this)
theorem Jh (k:Nat) {t:lR} (ht:t.Ok (cd (k+9))):(b7 t 33 (Gd (aa w ls zs ld zd) sure Hr (DA w ls ld zs zd sure))).Ok (cd (k+9)):=Jj sure ht (fun l H hl=>by
 obtain ⟨m,z,f,hm,rfl⟩:=hl
 exact PK k w ls ld m zs zd z H sure f)
theorem B0 (k:Nat) {t:lR} (ht:t.Ok (cd (k+16))) (P:AV→Prop) (hP:∀ l,P l→(l=hY p∧ij w ls ld zs zd p q=0∧∀ j:Nat,j<ls+2→p≠(j:Int)-2→dx w ld zs zd sure p ((j:Int)-2)=false)∨∃ m z,m≤1000∧l=bn m z false):(b7 t 39 (Em (aa w ls zs ld zd) p q sure P (C6 w ls ld zs zd sure p q))).Ok (cd (k+16)):=Jk p q sure ht (fun l H hl=>by
 rcases hP l hl with ⟨rfl,he,ho⟩ | ⟨m,z,hm,rfl⟩
 · exact LZ k w ls ld zs zd H p q sure he ho
 · have:=PL (k+1) w ls ld m zs zd z H p q sure hm
   rw[Jd] at this
   exact this)
theorem F4 (k:Nat) {t:lR} (ht:t.Ok (cd (k+8))) (P:AV→Prop) (hP:∀ l,P l→(l=hY p∧ij w ls ld zs zd p q=0∧∀ j:Nat,j<ls+2→p≠(j:Int)-2→dx w ld zs zd sure p ((j:Int)-2)=false)∨∃ m z,m≤1000∧l=bn m z false):(b7 t 40 (Em (aa w ls zs ld zd) p q sure P (C6 w ls ld zs zd sure p q))).Ok (cd (k+8)):=Jk p q sure ht (fun l H hl=>by
 rcases hP l hl with ⟨rfl,he,ho⟩ | ⟨m,z,hm,rfl⟩
 · exact L2 k w ls ld zs zd H p q sure he ho
 · exact PM k w ls ld m zs zd z H p q sure false hm)
theorem AL {f k:Nat} {A:AV} {e:Int} {t:lR} (ht:t.Ok (cd k)) (h:∀ H,cd k (.fn f) [aa w ls zs ld zd,.int .i64 p,.int .i64 q,.bool sure] H=some (.tup [A,.int .i64 e],H)):(b7 t f (En (aa w ls zs ld zd) A p q e sure)).Ok (cd k):=Mk w ls ld zs zd p q sure ht h
theorem c9 (hb:∀ i,0≤zb i∧zb i≤65535) (ha:0≤a∧a≤255) (hbb:0≤b∧b≤255):cd (n+21) (.fn 9) [aa w ls zs ld zd,vG lb zb,.agg (.I .u8 [a,b]),bn lm zm false,bn lk zk false,.bool sure] H=some (.bool true,H):=by
 by_cases hx:bN w ls ld zs zd=0∧lb≤60∧lm≤20∧lk≤20
 · obtain ⟨h,hl,hlm,hlk⟩:=hx
   have ck:=iL h
   obtain ⟨t1,t2,t3⟩:=Dl (ls:=ls) (a:=a) (b:=b) (by omega) ha.1 hbb.1
   have e0:=(J2 h t1 t2 t3).1
   have I9:∀ (k:Nat) {t:lR},t.Ok (cd (n+18+k))→(b7 t 43 (AS (aa w ls zs ld zd) a b (pX ls a) (tn ls a b))).Ok (cd (n+18+k)):=fun k t ht=>by
    rw[show n+18+k=n+15+k+3 by omega] at ht ⊢
    exact Mh w ls ld zs zd a b _ _ ht (by omega) ha hbb rfl rfl
   have I8:∀ k:Nat,(b7 (b7 aG 16 Ej) 20 (vB (aa w ls zs ld zd) (bN w ls ld zs zd))).Ok (cd (n+18+k)):=fun k=>by
    have h1:(b7 aG 16 Ej).Ok (cd (n+17+k+1)):=Pm (bB _)
    have:=D6 (n+16) w ls ld zs zd k _ (by rw[show n+16+2+k=n+17+k+1 by omega];exact h1)
    rwa [show n+16+2+k=n+18+k by omega] at this
   generalize pX ls a=P at *
   generalize tn ls a b=Q at *
   have s3:Hr (bn lm zm false):=⟨lm,zm,false,by omega,rfl⟩
   have s5:Dv P (bn lk zk false):=.inr ⟨lk,zk,by omega,rfl⟩
   have v3:DA w ls ld zs zd sure (bn lm zm false)=xQ w ls ld zs zd (dx w ld zs zd sure) lm zm:=rfl
   have v5:C6 w ls ld zs zd sure P Q (bn lk zk false)=AK w ls ld zs zd sure P Q lk zk:=rfl
   have hu:1<lm→zm (al 0 (az .i64 (Int.ofNat lm) (Int.ofNat 1)) 1)=zm (lm-1):=fun x=>by
    rw[aQ,show Int.ofNat lm-Int.ofNat 1=((lm-1:Nat):Int) by rw[da,da];omega,bX (by omega) (by omega),bT]
    congr 1;omega
   have hthr:1<lm→xQ w ls ld zs zd (dx w ld zs zd sure) lm zm=0→((zm 0=P∧zm (al 0 (az .i64 (Int.ofNat lm) (Int.ofNat 1)) 1)=Q)∨(zm 0=Q∧zm (al 0 (az .i64 (Int.ofNat lm) (Int.ofNat 1)) 1)=P))→0<ea w ls ld zs zd sure Q (P+2).toNat∧ea w ls ld zs zd sure Q (P+2).toNat≤lm:=fun x1 x2 x3=>by
    rw[hu x1] at x3
    exact FU h t1 t2 (Ea x2) x3
   rw[← v3] at hthr
   have hsd:AK w ls ld zs zd sure P Q lk zk=0→ea w ls ld zs zd sure Q (P+2).toNat=0:=fun x=>Dc h t1 t2 (D5 e0 x)
   rw[← v5] at hsd
   rcases Dm w ls ld zs zd P Q sure e0 with ⟨z0,hw⟩ | ⟨M,y,hM,hy,hw⟩
   · have hS:=Ew (sure:=sure) h t1 t2 z0
     have hct:∀ (S:AV),(∀ H,cd (n+18) (.fn 34) [aa w ls zs ld zd,.int .i64 P,.int .i64 Q,.bool sure] H=some (.tup [S,.int .i64 0],H))→True:=fun _ _=>trivial
     rcases uf w ls ld zs zd P Q sure e0 with ⟨x,_⟩ | ⟨_,⟨hs,hj⟩ | hs⟩
     · exact absurd z0 x
     · have ho:∀ j:Nat,j<ls+2→P≠(j:Int)-2→dx w ld zs zd sure P ((j:Int)-2)=false:=fun j hj' hne=>by
        rw[hj] at hS
        have h1:bE [P] 0=P:=by rw[fb];rfl
        have:=hS.cl 0 j (by simp) hj' (by
         cases hq:iA (bE [P]) [P].length ((j:Int)-2) with
         | false=>rfl
         | true=>exact absurd (List.mem_singleton.1 (oh.1 hq)).symm hne)
        rwa [h1] at this
       have s6:Dv P (hY P):=.inl rfl
       have v6:C6 w ls ld zs zd sure P Q (hY P)=0:=rfl
       have hP:∀ l,Dv P l→(l=hY P∧ij w ls ld zs zd P Q=0∧∀ j:Nat,j<ls+2→P≠(j:Int)-2→dx w ld zs zd sure P ((j:Int)-2)=false)∨∃ m z,m≤1000∧l=bn m z false:=fun l hl=>by
        rcases hl with x | x
        · exact .inl ⟨x,e0,ho⟩
        · exact .inr x
       refine bp (n:=n+20) Try.func9 rfl rfl rfl (O3 n w ls ld lb lm lk zs zd zb zm zk H a b (bN w ls ld zs zd) P Q sure Hr (Dv P) (DA w ls ld zs zd sure) (C6 w ls ld zs zd sure P Q)) (bQ _ (n+18) 2 (fun k=>?_)) (ah _ _) (ai _ _) ?_
       · have g:=I9 k (I8 k)
         have g29:=AL w ls ld zs zd P Q sure g (A:=.nils) (e:=5) (f:=29) (fun H=>by rw[show n+18+k=n+2+k+16 by omega];exact hw _ H)
         have g34:=AL w ls ld zs zd P Q sure g29 (A:=hY P) (e:=0) (f:=34) (fun H=>by rw[show n+18+k=n+3+k+15 by omega,← hs];exact LY _ w ls ld zs zd H P Q sure)
         rw[show n+18+k=n+2+k+16 by omega] at g34
         have g39:=B0 w ls ld zs zd P Q sure _ g34 _ hP
         rw[show n+2+k+16=n+10+k+8 by omega] at g39
         have g40:=F4 w ls ld zs zd P Q sure _ g39 _ hP
         rw[show n+10+k+8=n+2+k+16 by omega] at g40
         have g32:=BZ w ls ld zs zd sure _ g40
         rw[show n+2+k+16=n+18+k by omega] at g32
         exact g32
       · clear v3 v5 hsd hu
         generalize DA w ls ld zs zd sure (bn lm zm false)=E3 at *
         generalize C6 w ls ld zs zd sure P Q (bn lk zk false)=E5 at *
         generalize zm 0=U0 at *
         generalize zm (al 0 (az .i64 (Int.ofNat lm) (Int.ofNat 1)) 1)=U1 at *
         rw[z0] at hthr
         have i1:1<lm→az .i64 (Int.ofNat lm) (Int.ofNat 1)=(lm:Int)-1:=fun x=>by
          rw[aQ,show Int.ofNat 1=1 from rfl,da];exact bX (by omega) (by omega)
         repeat' first | (refine Tr.an (fun hc=>?_) (fun hc=>?_)<;>(try simp (disch:=omega) only[nV,nW,h,s3,s5,s6,v6,i1,and_self] at hc)<;>try omega) | (refine Tr.ao ?_ ?_;· (try simp (disch:=omega) only[nV,nW,h,s3,s5,s6,v6,i1,and_self]);try omega) | (refine Tr.ak ?_ ?_;· first | exact trivial | rfl | exact ⟨rfl,rfl⟩ | exact ⟨rfl,rfl,rfl⟩ | (simp (disch:=omega) only[nV,nW,h,s3,s5,s6,v6,i1,and_self];done) | ((try simp (disch:=omega) only[nV,nW,h,s3,s5,s6,v6,i1,and_self]);omega)) | fail
         all_goals exact Tr.aq ⟨rfl,rfl⟩
     · have hlen:(qj w ls ld zs zd sure P).length≤ls+2:=Ff _ _
       have v6:C6 w ls ld zs zd sure P Q (bn (qj w ls ld zs zd sure P).length (bE (qj w ls ld zs zd sure P)) false)=0:=Je e0 hS
       generalize (qj w ls ld zs zd sure P).length=K at *
       generalize bE (qj w ls ld zs zd sure P)=Z at *
       have s6:yo (bn K Z false):=⟨K,Z,by omega,rfl⟩
       have s5:yo (bn lk zk false):=⟨lk,zk,by omega,rfl⟩
       have hP:∀ l,yo l→(l=hY P∧ij w ls ld zs zd P Q=0∧∀ j:Nat,j<ls+2→P≠(j:Int)-2→dx w ld zs zd sure P ((j:Int)-2)=false)∨∃ m z,m≤1000∧l=bn m z false:=fun l hl=>.inr hl
       refine bp (n:=n+20) Try.func9 rfl rfl rfl (O4 n w ls ld lb lm lk zs zd zb zm zk H a b (bN w ls ld zs zd) P Q sure K Z Hr yo (DA w ls ld zs zd sure) (C6 w ls ld zs zd sure P Q)) (bQ _ (n+18) 2 (fun k=>?_)) (ah _ _) (ai _ _) ?_
       · have g:=I9 k (I8 k)
         have g29:=AL w ls ld zs zd P Q sure g (A:=.nils) (e:=5) (f:=29) (fun H=>by rw[show n+18+k=n+2+k+16 by omega];exact hw _ H)
         have g34:=AL w ls ld zs zd P Q sure g29 (A:=bn K Z false) (e:=0) (f:=34) (fun H=>by rw[show n+18+k=n+3+k+15 by omega,← hs];exact LY _ w ls ld zs zd H P Q sure)
         rw[show n+18+k=n+2+k+16 by omega] at g34
         have g39:=B0 w ls ld zs zd P Q sure _ g34 _ hP
         rw[show n+2+k+16=n+10+k+8 by omega] at g39
         have g40:=F4 w ls ld zs zd P Q sure _ g39 _ hP
         rw[show n+10+k+8=n+2+k+16 by omega] at g40
         have g32:=BZ w ls ld zs zd sure _ g40
         rw[show n+2+k+16=n+18+k by omega] at g32
         exact g32
       · clear v3 v5 hsd hu
         generalize DA w ls ld zs zd sure (bn lm zm false)=E3 at *
         generalize C6 w ls ld zs zd sure P Q (bn lk zk false)=E5 at *
         generalize zm 0=U0 at *
         generalize zm (al 0 (az .i64 (Int.ofNat lm) (Int.ofNat 1)) 1)=U1 at *
         rw[z0] at hthr
         have i1:1<lm→az .i64 (Int.ofNat lm) (Int.ofNat 1)=(lm:Int)-1:=fun x=>by
          rw[aQ,show Int.ofNat 1=1 from rfl,da];exact bX (by omega) (by omega)
         repeat' first | (refine Tr.an (fun hc=>?_) (fun hc=>?_)<;>(try simp (disch:=omega) only[nV,nW,h,s3,s5,s6,v6,i1,and_self] at hc)<;>try omega) | (refine Tr.ao ?_ ?_;· (try simp (disch:=omega) only[nV,nW,h,s3,s5,s6,v6,i1,and_self]);try omega) | (refine Tr.ak ?_ ?_;· first | exact trivial | rfl | exact ⟨rfl,rfl⟩ | exact ⟨rfl,rfl,rfl⟩ | (simp (disch:=omega) only[nV,nW,h,s3,s5,s6,v6,i1,and_self];done) | ((try simp (disch:=omega) only[nV,nW,h,s3,s5,s6,v6,i1,and_self]);omega)) | fail
         all_goals exact Tr.aq ⟨rfl,rfl⟩
   · have hW:=Fi (sure:=sure) h t1 t2 t3 hM (by omega) hy
     obtain ⟨hW,y0,y1⟩:=hW
     have hs:xA w ls ld zs zd sure P Q=.tup [.nils,.int .i64 11]:=by
      rcases uf w ls ld zs zd P Q sure e0 with ⟨_,x⟩ | ⟨x,_⟩
      · exact x
      · omega
     have s4:Hr (bn (M+2) y true):=⟨M+2,y,true,by have:=hW.hi;omega,rfl⟩
     have s5:yo (bn lk zk false):=⟨lk,zk,by omega,rfl⟩
     have v4:DA w ls ld zs zd sure (bn (M+2) y true)=0:=Jm h hW
     have hld:0<ld:=by
      have:=hW.hh 0 (by omega)
      cases ld with
      | zero=>rw[ET] at this;cases this
      | succ j=>omega
     have hT:aU 1 ld (upto (jH lb zb zd) ld)=yM lb zb zd ld:=by
      cases ld with
      | zero=>omega
      | succ j=>rfl
     obtain ⟨jx,hl9⟩:=l9 n w ls ld lb zs zd zb H a b sure h hb _ hT (M+2) y hW
     have hP:∀ l,yo l→(l=hY P∧ij w ls ld zs zd P Q=0∧∀ j:Nat,j<ls+2→P≠(j:Int)-2→dx w ld zs zd sure P ((j:Int)-2)=false)∨∃ m z,m≤1000∧l=bn m z false:=fun l hl=>.inr hl
     refine bp (n:=n+20) Try.func9 rfl rfl rfl (R7 n w ls ld lb lm lk (M+2) zs zd zb zm zk y H a b (bN w ls ld zs zd) P Q sure (upto (jH lb zb zd) ld) jx Hr yo (DA w ls ld zs zd sure) (C6 w ls ld zs zd sure P Q)) (bQ _ (n+18) 2 (fun k=>?_)) (bf (ah _ _) b9 (fun x hx=>by rw[← Tr.ab hx];simp only[dg.st,aw];exact hl9)) (ai _ _) ?_
     · have g:=I9 k (I8 k)
       have g29:=AL w ls ld zs zd P Q sure g (A:=bn (M+2) y true) (e:=0) (f:=29) (fun H=>by rw[show n+18+k=n+2+k+16 by omega];exact hw _ H)
       have g34:=AL w ls ld zs zd P Q sure g29 (A:=.nils) (e:=11) (f:=34) (fun H=>by rw[show n+18+k=n+3+k+15 by omega,← hs];exact LY _ w ls ld zs zd H P Q sure)
       rw[show n+18+k=n+2+k+16 by omega] at g34
       have g39:=B0 w ls ld zs zd P Q sure _ g34 _ hP
       have g32:=BZ w ls ld zs zd sure _ g39
       rw[show n+2+k+16=n+9+k+9 by omega] at g32
       have g33:=Jh w ls ld zs zd sure _ g32
       rw[show n+9+k+9=n+17+k+1 by omega] at g33
       have IH:=Mg w ls ld lb zs zd zb g33 h (by omega) hb hT
       rw[show n+17+k+1=n+18+k by omega] at IH
       exact IH
     · have yq:y (al 0 (az .i64 (Int.ofNat (M+2)) (Int.ofNat 1)) 1)=Q:=by
        have:=hW.hi
        rw[← y1,aQ,show Int.ofNat (M+2)-Int.ofNat 1=((M+1:Nat):Int) by rw[da,da];omega,bX (by omega) (by omega),bT]
        congr 1;omega
       have mm:=hW.hi
       have i2:az .i64 (Int.ofNat (M+2)) (Int.ofNat 1)=(M:Int)+1:=by
        rw[aQ,show Int.ofNat 1=1 from rfl,da,bX (by omega) (by omega)];omega
       have i1:1<lm→az .i64 (Int.ofNat lm) (Int.ofNat 1)=(lm:Int)-1:=fun x=>by
        rw[aQ,show Int.ofNat 1=1 from rfl,da];exact bX (by omega) (by omega)
       rw[hM] at hthr hsd
       rw[yq,y0]
       clear v3 v5 hu hW hT hl9 hy hP
       generalize DA w ls ld zs zd sure (bn lm zm false)=E3 at *
       generalize C6 w ls ld zs zd sure P Q (bn lk zk false)=E5 at *
       generalize zm 0=U0 at *
       generalize zm (al 0 (az .i64 (Int.ofNat lm) (Int.ofNat 1)) 1)=U1 at *
       repeat' first | (refine Tr.an (fun hc=>?_) (fun hc=>?_)<;>(try simp (disch:=omega) only[nV,nW,h,s3,s4,s5,v4,i1,i2,and_self] at hc)<;>try omega) | (refine Tr.ao ?_ ?_;· (try simp (disch:=omega) only[nV,nW,h,s3,s4,s5,v4,i1,i2,and_self]);try omega) | (refine Tr.ak ?_ ?_;· first | exact trivial | rfl | exact ⟨rfl,rfl⟩ | exact ⟨rfl,rfl,rfl⟩ | (simp (disch:=omega) only[nV,nW,h,s3,s4,s5,v4,i1,i2,and_self];done) | ((try simp (disch:=omega) only[nV,nW,h,s3,s4,s5,v4,i1,i2,and_self]);omega)) | fail
       all_goals exact Tr.aq ⟨rfl,rfl⟩
 · refine bp (n:=n+20) Try.func9 rfl rfl rfl (R8 n w ls ld lb lm lk zs zd zb zm zk H a b (bN w ls ld zs zd) sure) (bQ _ (n+18) 2 (fun k=>bI ?_ (fun args p v hg hp H=>by cases hg))) (ah _ _) (ai _ _) ?_
   · have h1:(b7 aG 16 Ej).Ok (cd (n+17+k+1)):=Pm (bB _)
     have:=D6 (n+16) w ls ld zs zd k _ (by rw[show n+16+2+k=n+17+k+1 by omega];exact h1)
     rwa [show n+16+2+k=n+18+k by omega] at this
   · repeat' first | (refine Tr.an (fun hc=>?_) (fun hc=>?_)<;>(try simp (disch:=omega) only[nV,nW] at hc)<;>try omega) | (refine Tr.ao ?_ ?_;· (try simp (disch:=omega) only[nV,nW]);try omega) | (refine Tr.ak ?_ ?_;· first | exact trivial | rfl | exact ⟨rfl,rfl⟩ | exact ⟨rfl,rfl,rfl⟩ | (simp (disch:=omega) only[nV,nW];done) | ((try simp (disch:=omega) only[nV,nW]);omega)) | fail
     all_goals exact Tr.aq ⟨rfl,rfl⟩
end
end Go.Eng
end
section
namespace Go.Eng
open Go.Proofs Go.ChangeShapes
set_option linter.unusedVariables false
set_option maxRecDepth 100000

theorem Ps {p:aX} {M:Mu} {k:IntKind} {z:Nat→Int} {N sz len:Nat} {full:Bool} {v:Value} (h:ar p M (.slcT none (.F (fun j=>.int k (z j)) N) sz len full) v):ar p M (.slcT none (.M [.arr k z N]) sz len full) v:=by
 cases h with
 | slcN=>exact .slcN
 | slcT vs h0 h1 hv hl hf hx =>
   have e:∀ j,j<(Row.M [aC.arr k z N]).len→j<N:=fun j hj=>by simpa[Row.len,aM,aT] using hj
   refine .slcT vs (fun j hj=>h0 j (e j hj)) (fun j hj=>h1 j (e j hj)) (fun j hj=>?_) hl hf hx
   have:=hv j (e j hj)
   simp only[Row.get,getM,if_pos (e j hj)] at this ⊢
   exact this.bZ _ _
theorem zu:tu Try.prog 2 1:=ln Try.underlying2
theorem Jv:tu Try.prog 3 1:=ln Try.underlying3
theorem G6:tu Try.prog 74 2:=kq Try.underlying74 zu zu rfl rfl (by kernel_rfl) (by kernel_rfl) (by kernel_rfl)
theorem G4:tu Try.prog 29 2:=kq Try.underlying29 zu zu rfl rfl (by kernel_rfl) (by kernel_rfl) (by kernel_rfl)
theorem G5:tu Try.prog 62 3:=kq Try.underlying62 Jv G4 rfl rfl (by kernel_rfl) (by kernel_rfl) (by kernel_rfl)

theorem su {P:Program} {w:World} {r:Reach} {base:Nat} {t e:TypeId} {v:Value} (ht:P.underlying t=some (.slice e)) (h:Cell.okWide P w r base t v):∀ a l c,v=.slice (some a) l c→a.spot=none:=by
 rintro a l c rfl
 simp only[Cell.okWide,ht,Cell.ok] at h
 exact h.2.2.2.1

theorem uh {t e n:Nat} (ht:Try.prog.underlying t=some (.slice e)) (he:tu Try.prog e n) (hn:0<n) (hc:Try.prog.cellsOf e=n) {H:Type} {enc:TypeId×Value→H} {w:World} {r:Reach} {b0 base:Nat} {sp:Nat→Bool} {held:Bool} {fuel:Nat} {v:Value} {x:DataW H×List MemPlace}
 (hv:Cell.okWide Try.prog w r b0 t v) (h:DataW.trod enc Try.prog w base sp held fuel t [v]=some x):∃ len z,ar (Pw w) Mu.no (aU n len z) v∧v.oneCell'=true:=by
 rcases ss ht he hn hc (su ht hv) h with rfl | ⟨zs,len,h1,h2⟩
 · exact ⟨0,fun _=>0,.slcN,rfl⟩
 · refine ⟨len,zs,?_,?_⟩
   · unfold aU
     rw[cT]
     exact Ps h1
   · cases h1<;>rfl

theorem BL {H:Type} {enc:TypeId×Value→H} {w:World} {r:Reach} {b0 base:Nat} {sp:Nat→Bool} {held:Bool} {v:Value} {d:DataW H} {ps:List MemPlace} (hv:Value.okWide Try.prog w r b0 25 v) (h:DataW.Trod enc Try.prog w base sp held 25 v d ps) :
 ∃ (wd:Int) (ls:Nat) (zs:Nat→Int) (ld:Nat) (zd:Nat→Int),ar (Pw w) Mu.no (aa wd ls zs ld zd) v:=by
 have hts:Try.prog.cellTypes Try.prog.depth 25=some [2,22,23]:=by kernel_rfl
 have hc25:Try.prog.cellsOf 25=3:=by kernel_rfl
 have hc2:Try.prog.cellsOf 2=1:=by kernel_rfl
 have hc22:Try.prog.cellsOf 22=1:=by kernel_rfl
 have hc23:Try.prog.cellsOf 23=1:=by kernel_rfl
 have hc74:Try.prog.cellsOf 74=2:=by kernel_rfl
 have hc62:Try.prog.cellsOf 62=3:=by kernel_rfl
 simp only[Value.okWide,Try.underlying25] at hv
 obtain ⟨cs,rfl,hsz,ts,ht,_,hcell⟩:=hv
 rw[hts] at ht
 obtain rfl:=Option.some.inj ht
 rw[hc25] at hsz
 obtain ⟨fuel,hf⟩:=h
 obtain ⟨xs,n,_,_,_,hxl,hfield⟩:=DataW.trod_struct Try.underlying25 hf
 have e3:∃ c0 c1 c2,cs=#[c0,c1,c2]:=by
  refine ⟨cs[0],cs[1],cs[2],?_⟩
  apply Array.ext
  · simpa using hsz
  · intro i h1 h2
    simp at h2
    match i,h2 with
    | 0,_=>rfl
    | 1,_=>rfl
    | 2,_=>rfl
 obtain ⟨c0,c1,c2,rfl⟩:=e3
 have some_of:∀ i,i<3→∃ y,xs[i]?=some y:=fun i hi=>by
  have:i<xs.length:=by rw[hxl];simpa using hi
  exact ⟨xs[i],List.getElem?_eq_getElem this⟩
 obtain ⟨y0,hy0⟩:=some_of 0 (by omega)
 obtain ⟨y1,hy1⟩:=some_of 1 (by omega)
 obtain ⟨y2,hy2⟩:=some_of 2 (by omega)
 have f0:=hfield 0 _ rfl
 have f1:=hfield 1 _ rfl
 have f2:=hfield 2 _ rfl
 rw[hy0] at f0
 rw[hy1] at f1
 rw[hy2] at f2
 simp only[Value.cells] at f0 f1 f2
 have g0:DataW.trod enc Try.prog w base sp held n 2 [c0]=some y0:=by simpa[hc2] using f0
 have g1:DataW.trod enc Try.prog w base sp held n 22 [c1]=some y1:=by simpa[hc22] using f1
 have g2:DataW.trod enc Try.prog w base sp held n 23 [c2]=some y2:=by simpa[hc23] using f2
 obtain ⟨wd,e0,_,hw⟩:=DataW.trod_int Try.underlying2 g0
 simp only[List.cons.injEq,and_true] at e0
 subst e0
 obtain ⟨u1,hu1,k1⟩:=hcell 1 c1 rfl
 obtain ⟨u2,hu2,k2⟩:=hcell 2 c2 rfl
 simp at hu1 hu2
 subst hu1;subst hu2
 obtain ⟨ls,zs,r1,o1⟩:=uh Try.underlying22 G6 (by omega) hc74 k1 g1
 obtain ⟨ld,zd,r2,o2⟩:=uh Try.underlying23 G5 (by omega) hc62 k2 g2
 refine ⟨wd,ls,zs,ld,zd,?_⟩
 refine .agg rfl (fun j hj=>?_) (fun j hj=>?_)
 · have hj':j<3:=hj
   match j,hj' with
   | 0,_=>rfl
   | 1,_=>exact o1
   | 2,_=>exact o2
 · have hj':j<3:=hj
   match j,hj' with
   | 0,_=>exact .int _ _
   | 1,_=>exact r1
   | 2,_=>exact r2

end Go.Eng
end
