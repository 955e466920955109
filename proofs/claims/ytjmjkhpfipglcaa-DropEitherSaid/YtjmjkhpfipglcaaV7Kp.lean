/- Drop: CheckSide of the program. -/
import Derived.Test.YtjmjkhpfipglcaaV7Klx13
namespace Go.Eng
open Go.Proofs
set_option linter.unusedVariables false
set_option linter.unusedSimpArgs false
set_option maxRecDepth 100000
noncomputable def cK (w:Int) (ls ld lm:Nat) (zs zd zm:Nat→Int) (e:Int) (rest:List (Nat×aj)):b6:=⟨false,(0,.row (.G [.int .i64 w,aU 2 ls zs,aU 3 ld zd]))::(0,.row (.G [bn lm zm false]))::(0,.row (.I .i64 [e]))::rest⟩
noncomputable def nR (w:Int) (ls ld lm:Nat) (zs zd zm sz kd:Nat→Int) (p q:Int) (sure:Bool) (j:Int):aO:=[(1,.int .i64 p),(2,.int .i64 q),(4,.bool sure),(8,.ptr 0 1 0 0),(10,.ptr 0 2 0 0),(11,a9 0 w ls ld zs zd sz kd),(28,bn lm zm false),(29,.int .i64 (Int.ofNat lm)),(30,.int .i64 j)]
noncomputable def nT (w:Int) (ls ld lm:Nat) (zs zd zm sz kd:Nat→Int) (sure:Bool) (i:Int):aO:=[(4,.bool sure),(8,.ptr 0 1 0 0),(10,.ptr 0 2 0 0),(11,a9 0 w ls ld zs zd sz kd),(62,bn lm zm false),(63,.int .i64 (Int.ofNat lm)),(64,.int .i64 i)]
noncomputable def lu (w:Int) (ls ld lm:Nat) (zs zd zm sz kd:Nat→Int) (sure:Bool) (i cur:Int):aO:=[(4,.bool sure),(8,.ptr 0 1 0 0),(10,.ptr 0 2 0 0),(11,a9 0 w ls ld zs zd sz kd),(62,bn lm zm false),(63,.int .i64 (Int.ofNat lm)),(64,.int .i64 i),(71,.fn (.func 110) [] (gv 0 w ls ld zs zd sz kd cur sure))]
noncomputable def v8 (w:Int) (ls ld lm:Nat) (zs zd zm sz kd:Nat→Int) (sure:Bool) (i cur q:Int):aO:=[(4,.bool sure),(8,.ptr 4 1 0 0),(10,.ptr 4 2 0 0),(11,a9 4 w ls ld zs zd sz kd),(62,bn lm zm false),(63,.int .i64 (Int.ofNat lm)),(64,.int .i64 i),(71,.fn (.func 110) [] [.ptrT (some 4) (.G [a9 0 w ls ld zs zd sz kd]) 0,.ptrT none (.I .i64 [cur]) 0,.ptrT (some 4) (.G [.bool sure]) 0]),(72,.int .i64 q)]
noncomputable def v7 (q:Int):aO:=[(8,.ptr 4 1 0 0),(10,.ptr 4 2 0 0),(17,.int .i64 q)]
noncomputable def yb (n:Nat):Cx:=⟨Try.prog,cd n,100000,39,78,Kt.kt 39,some (4,3)⟩
noncomputable def Ft:Code:=part Try.f39 [1,1,1,1,1,0,1,0,0,1,1,0,0,1,1,0,0]
noncomputable def Dx:Code:=part Try.f39 [1,1,1,1,1,0,1,0,0,1,1,0,0,1,1,0,1]
theorem KP (n:Nat) (w:Int) (ls ld lm:Nat) (zs zd zm sz kd:Nat→Int) (H:ae) (p q j:Int) (sure:Bool):aH (bF (n+14) 39 78) (il aG (n+13) 1) aJ aK (part Try.f39 [1,1,1,0,1,0,0]) (hints (nR w ls ld lm zs zd zm sz kd p q sure j)) (cK w ls ld lm zs zd zm 0 []::H) =
 (fun (Z0:a8)=>Tr.ite (bA j (Int.ofNat lm)) (Tr.req (br j lm) (Tr.req (bt (al 0 j 1) lm) (Tr.ite (dA (Int.negSucc 1) (zm (al 0 j 1))) (Tr.ite (aD (bA (zm (al 0 j 1)) (Int.ofNat ls))) (Tr.ok (Ex.ret,[(10,AV.ptr 0 2 0 0,none)],cK w ls ld lm zs zd zm 3 []::H)) (Tr.ite (bA (Int.ofNat 0) j) (Tr.req (br (az .i64 j (Int.ofNat 1)) lm) (Tr.req (bt (al 0 (az .i64 j (Int.ofNat 1)) 1) lm) (Tr.ite (dA (zm (al 0 j 1)) (zm (al 0 (az .i64 j (Int.ofNat 1)) 1))) (Tr.ok (Ex.ret,[(10,AV.ptr 0 2 0 0,none)],cK w ls ld lm zs zd zm 3 []::H)) (Tr.ok (Ex.normal,Z0,cK w ls ld lm zs zd zm 0 []::H))))) (Tr.ok (Ex.normal,Z0,cK w ls ld lm zs zd zm 0 []::H)))) (Tr.ok (Ex.ret,[(10,AV.ptr 0 2 0 0,none)],cK w ls ld lm zs zd zm 3 []::H))))) (Tr.ok (Ex.exit 0,[(1,AV.int .i64 p,none),(2,AV.int .i64 q,none),(4,AV.bool sure,none),(8,AV.ptr 0 1 0 0,none),(10,AV.ptr 0 2 0 0,none),(11,a9 0 w ls ld zs zd sz kd,none),(28,bn lm zm false,none),(29,AV.int .i64 (Int.ofNat lm),none),(30,AV.int .i64 j,none),(31,AV.bool false,some 1)],cK w ls ld lm zs zd zm 0 []::H))) [(1,AV.int .i64 p,none),(2,AV.int .i64 q,none),(4,AV.bool sure,none),(8,AV.ptr 0 1 0 0,none),(10,AV.ptr 0 2 0 0,none),(11,a9 0 w ls ld zs zd sz kd,none),(28,bn lm zm false,none),(29,AV.int .i64 (Int.ofNat lm),none),(30,AV.int .i64 (ay .i64 j (Int.ofNat 1)),none)]:=by kernel_rfl
theorem N8 (n:Nat) (w:Int) (ls ld lm:Nat) (zs zd zm:Nat→Int) (H:ae) (q:Int) (f:(Nat→Int)→Nat→Int→Bool) (L0:bw) (B:aj):aH (yb (n+2)) (il (b7 aG 85 (zy f)) (n+2) 0) aJ aK Dx (hints (v7 q)) (af::af::af::aB 3 [(0,.loop L0)]::cK w ls ld lm zs zd zm 0 [(0,B)]::H) =
 Tr.reqP (lm=lm∧cB lm 1000=true) (Tr.ite (aD (f zm lm q)) (Tr.ok (Ex.ret,[],af::af::af::{ lock:=false,bs:=[(0,aj.row (Row.G [AV.yld 1 3])),(0,aj.loop L0)] } :: { lock:=false,bs:=[(0,aj.row (Row.G [AV.int .i64 w,aU 2 ls zs,aU 3 ld zd])),(0,aj.row (Row.G [bn lm zm false])),(0,aj.row (Row.I .i64 [Int.ofNat 14])),(0,B)] } :: H)) (Tr.ok (Ex.normal,[(10,AV.ptr 4 2 0 0,none),(76,AV.bool false,some 1)],af::af::af::{ lock:=false,bs:=[(0,aj.row (Row.G [AV.yld 1 3])),(0,aj.loop L0)] } :: { lock:=false,bs:=[(0,aj.row (Row.G [AV.int .i64 w,aU 2 ls zs,aU 3 ld zd])),(0,aj.row (Row.G [bn lm zm false])),(0,aj.row (Row.I .i64 [Int.ofNat 0])),(0,B)] } :: H))):=by kernel_rfl
theorem N9 (n:Nat) (w:Int) (ls ld lm:Nat) (zs zd zm sz kd:Nat→Int) (H:ae) (i cur:Int) (sure e2:Bool):aH (bF (n+14) 39 78) (il aG (n+13) 1) aJ (th aK (fun _=>true) (lu w ls ld lm zs zd zm sz kd sure i cur) (cK w ls ld lm zs zd zm 0 []::H) (.ite e2 (.ok (.ret,hints (lu w ls ld lm zs zd zm sz kd sure i cur),cK w ls ld lm zs zd zm 14 [(0,.dead)]::H)) (.ok (.normal,hints (lu w ls ld lm zs zd zm sz kd sure i cur),cK w ls ld lm zs zd zm 0 [(0,.dead)]::H)))) (part Try.f39 [1,1,1,1,1,0,1,0,0]) (hints (nT w ls ld lm zs zd zm sz kd sure i)) (cK w ls ld lm zs zd zm 0 []::H) =
 (fun (Z0:List AV)=>Tr.ite (bA i (Int.ofNat lm)) (Tr.req (br i lm) (Tr.req (bt (al 0 i 1) lm) (Tr.reqP ([(4,AV.bool sure),(8,AV.ptr 0 1 0 0),(10,AV.ptr 0 2 0 0),(11,a9 0 w ls ld zs zd sz kd),(62,bn lm zm false),(63,AV.int .i64 (Int.ofNat lm)),(64,AV.int .i64 i),(71,AV.fn (Fn.func 110) [] [AV.ptrT (some 0) (Row.G [a9 0 w ls ld zs zd sz kd]) 0,AV.ptrT none (Row.I .i64 [zm (al 0 i 1)]) 0,AV.ptrT (some 0) (Row.G [AV.bool sure]) 0])]=[(4,AV.bool sure),(8,AV.ptr 0 1 0 0),(10,AV.ptr 0 2 0 0),(11,a9 0 w ls ld zs zd sz kd),(62,bn lm zm false),(63,AV.int .i64 (Int.ofNat lm)),(64,AV.int .i64 i),(71,AV.fn (Fn.func 110) [] Z0)]∧cK w ls ld lm zs zd zm 0 []::H=cK w ls ld lm zs zd zm 0 []::H) (Tr.ite e2 (Tr.ok (Ex.ret,[(4,AV.bool sure,none),(8,AV.ptr 0 1 0 0,none),(10,AV.ptr 0 2 0 0,none),(11,a9 0 w ls ld zs zd sz kd,none),(62,bn lm zm false,none),(63,AV.int .i64 (Int.ofNat lm),none),(64,AV.int .i64 i,none),(71,AV.fn (Fn.func 110) [] Z0,none)],{ lock:=false,bs:=[(0,aj.row (Row.G [AV.int .i64 w,aU 2 ls zs,aU 3 ld zd])),(0,aj.row (Row.G [bn lm zm false])),(0,aj.row (Row.I .i64 [Int.ofNat 14])),(0,aj.dead)] } :: H)) (Tr.ok (Ex.normal,[(4,AV.bool sure,none),(8,AV.ptr 0 1 0 0,none),(10,AV.ptr 0 2 0 0,none),(11,a9 0 w ls ld zs zd sz kd,none),(62,bn lm zm false,none),(63,AV.int .i64 (Int.ofNat lm),none),(64,AV.int .i64 (ay .i64 i (Int.ofNat 1)),none)],{ lock:=false,bs:=[(0,aj.row (Row.G [AV.int .i64 w,aU 2 ls zs,aU 3 ld zd])),(0,aj.row (Row.G [bn lm zm false])),(0,aj.row (Row.I .i64 [Int.ofNat 0])),(0,aj.dead)] } :: H)))))) (Tr.ok (Ex.exit 2,[(4,AV.bool sure,none),(8,AV.ptr 0 1 0 0,none),(10,AV.ptr 0 2 0 0,none),(11,a9 0 w ls ld zs zd sz kd,none),(62,bn lm zm false,none),(63,AV.int .i64 (Int.ofNat lm),none),(64,AV.int .i64 i,none),(65,AV.bool false,some 1)],cK w ls ld lm zs zd zm 0 []::H))) [AV.ptrT (some 0) (Row.G [a9 0 w ls ld zs zd sz kd]) 0,AV.ptrT none (Row.I .i64 [cur]) 0,AV.ptrT (some 0) (Row.G [AV.bool sure]) 0]:=by kernel_rfl
theorem KQ (n:Nat) (w:Int) (ls ld lm:Nat) (zs zd zm sz kd:Nat→Int) (H:ae) (i:Int) (sure:Bool):aH (bF (n+14) 39 78) (il aG (n+13) 1) aJ (th aK (fun _=>true) [] [] .bad) (part Try.f39 [1,1,1,1,1,0,1,0,0]) (hints (nT w ls ld lm zs zd zm sz kd sure i)) (cK w ls ld lm zs zd zm 0 []::H) =
 Tr.ite (bA i (Int.ofNat lm)) (Tr.req (br i lm) (Tr.req (bt (al 0 i 1) lm) (Tr.reqP ([(4,AV.bool sure),(8,AV.ptr 0 1 0 0),(10,AV.ptr 0 2 0 0),(11,a9 0 w ls ld zs zd sz kd),(62,bn lm zm false),(63,AV.int .i64 (Int.ofNat lm)),(64,AV.int .i64 i),(71,AV.fn (Fn.func 110) [] [AV.ptrT (some 0) (Row.G [a9 0 w ls ld zs zd sz kd]) 0,AV.ptrT none (Row.I .i64 [zm (al 0 i 1)]) 0,AV.ptrT (some 0) (Row.G [AV.bool sure]) 0])]=[]∧cK w ls ld lm zs zd zm 0 []::H=[]) Tr.bad))) (Tr.ok (Ex.exit 2,[(4,AV.bool sure,none),(8,AV.ptr 0 1 0 0,none),(10,AV.ptr 0 2 0 0,none),(11,a9 0 w ls ld zs zd sz kd,none),(62,bn lm zm false,none),(63,AV.int .i64 (Int.ofNat lm),none),(64,AV.int .i64 i,none),(65,AV.bool false,some 1)],cK w ls ld lm zs zd zm 0 []::H)):=by kernel_rfl
theorem OK (n:Nat) (w:Int) (ls ld lm:Nat) (zs zd zm:Nat→Int) (H:ae) (p q e:Int) (sure:Bool):aW Try.prog (cd (n+14)) 100000 39 Try.f39 (Kt.kt 39) (il (b7 aG 68 (AT (aa w ls zs ld zd) p q .nilp e)) (n+14) 0) (fY (fY aJ 0) 2) aK [(aa w ls zs ld zd,none),(.int .i64 p,none),(.int .i64 q,none),(bn lm zm false,none),(.bool sure,none)] H =
 Tr.reqP (aa w ls zs ld zd=aa w ls zs ld zd∧p=p∧q=q) (Tr.ite (aD (aF e (Int.ofNat 0))) (Tr.ok ((AV.int .i64 e,none),H)) Tr.bad):=by kernel_rfl
theorem OL (n:Nat) (w:Int) (ls ld lm:Nat) (zs zd zm sz kd:Nat→Int) (H:ae) (p q:Int) (sure:Bool):aW Try.prog (cd (n+14)) 100000 39 Try.f39 (Kt.kt 39) (il (b7 aG 68 (AT (aa w ls zs ld zd) p q (gu w ls ld zs zd sz kd) 0)) (n+14) 0) (dc (fY aJ 2) 0 (nR w ls ld lm zs zd zm sz kd p q sure 0) (cK w ls ld lm zs zd zm 0 []::H) (.ok (.ret,[(10,.ptr 0 2 0 0,none)],cK w ls ld lm zs zd zm 3 []::H))) aK [(aa w ls zs ld zd,none),(.int .i64 p,none),(.int .i64 q,none),(bn lm zm false,none),(.bool sure,none)] H =
 (fun (Z0:aO)=>Tr.reqP (aa w ls zs ld zd=aa w ls zs ld zd∧p=p∧q=q) (Tr.ite (aD (aF (Int.ofNat 0) (Int.ofNat 0))) (Tr.ok ((AV.int .i64 (Int.ofNat 0),none),H)) (Tr.reqP (Z0=Z0∧cK w ls ld lm zs zd zm 0 []::H=cK w ls ld lm zs zd zm 0 []::H) (Tr.ok ((AV.int .i64 (Int.ofNat 3),none),H))))) [(1,AV.int .i64 p),(2,AV.int .i64 q),(4,AV.bool sure),(8,AV.ptr 0 1 0 0),(10,AV.ptr 0 2 0 0),(11,a9 0 w ls ld zs zd sz kd),(28,bn lm zm false),(29,AV.int .i64 (Int.ofNat lm)),(30,AV.int .i64 (Int.ofNat 0))]:=by kernel_rfl
theorem OM (n:Nat) (w:Int) (ls ld lm:Nat) (zs zd zm sz kd:Nat→Int) (H:ae) (p q i cur:Int) (sure e2:Bool) (f:(Nat→Int)→Nat→Int→Bool):aW Try.prog (cd (n+14)) 100000 39 Try.f39 (Kt.kt 39) (il (b7 (b7 aG 68 (AT (aa w ls zs ld zd) p q (gu w ls ld zs zd sz kd) 0)) 85 (zy f)) (n+14) 0) (dc (dc aJ 2 (nT w ls ld lm zs zd zm sz kd sure 0) (cK w ls ld lm zs zd zm 0 []::H) (.ite e2 (.ok (.ret,hints (lu w ls ld lm zs zd zm sz kd sure i cur),cK w ls ld lm zs zd zm 14 [(0,.dead)]::H)) (.ok (.normal,hints (nT w ls ld lm zs zd zm sz kd sure (Int.ofNat lm)++[(65,.bool false)]),cK w ls ld lm zs zd zm 0 []::H)))) 0 (nR w ls ld lm zs zd zm sz kd p q sure 0) (cK w ls ld lm zs zd zm 0 []::H) (.ok (.normal,hints (nR w ls ld lm zs zd zm sz kd p q sure (Int.ofNat lm)++[(31,.bool false)]),cK w ls ld lm zs zd zm 0 []::H))) aK [(aa w ls zs ld zd,none),(.int .i64 p,none),(.int .i64 q,none),(bn lm zm false,none),(.bool sure,none)] H =
 (fun (Z0:aO)=>((fun (Z1:aO)=>Tr.reqP (aa w ls zs ld zd=aa w ls zs ld zd∧p=p∧q=q) (Tr.ite (aD (aF (Int.ofNat 0) (Int.ofNat 0))) (Tr.ok ((AV.int .i64 (Int.ofNat 0),none),H)) (Tr.reqP (Z0=Z0∧cK w ls ld lm zs zd zm 0 []::H=cK w ls ld lm zs zd zm 0 []::H) (Tr.reqP (lm=lm∧cB lm 1000=true) (Tr.ite (aD (f zm lm p)) (Tr.ok ((AV.int .i64 (Int.ofNat 14),none),H)) (Tr.reqP (lm=lm∧cB lm 1000=true) (Tr.ite (f zm lm q) (Tr.ok ((AV.int .i64 (Int.ofNat 14),none),H)) (Tr.reqP (Z1=Z1∧cK w ls ld lm zs zd zm 0 []::H=cK w ls ld lm zs zd zm 0 []::H) (Tr.ite e2 (Tr.ok ((AV.int .i64 (Int.ofNat 14),none),H)) (Tr.ok ((AV.int .i64 (Int.ofNat 0),none),H))))))))))) [(4,AV.bool sure),(8,AV.ptr 0 1 0 0),(10,AV.ptr 0 2 0 0),(11,a9 0 w ls ld zs zd sz kd),(62,bn lm zm false),(63,AV.int .i64 (Int.ofNat lm)),(64,AV.int .i64 (Int.ofNat 0))])) [(1,AV.int .i64 p),(2,AV.int .i64 q),(4,AV.bool sure),(8,AV.ptr 0 1 0 0),(10,AV.ptr 0 2 0 0),(11,a9 0 w ls ld zs zd sz kd),(28,bn lm zm false),(29,AV.int .i64 (Int.ofNat lm)),(30,AV.int .i64 (Int.ofNat 0))]:=by kernel_rfl
noncomputable def j4 (w:Int) (ls ld lm:Nat) (zs zd zm sz kd:Nat→Int) (sure:Bool) (i cur:Int):bw:={ state:=.ready,pending:=none,fn:=39,nt:=78,fr:=lu w ls ld lm zs zd zm sz kd sure i cur,params:=[72],assign:=Ft,body:=Dx }
noncomputable def CX (w:Int) (ls ld lm:Nat) (zs zd zm sz kd:Nat→Int) (sure:Bool) (i cur:Int):bw:={ j4 w ls ld lm zs zd zm sz kd sure i cur with state:=.done,pending:=some .ret }
theorem IW:∀ b,(0,b) ∈ av (aL Try.f39)→b=.loop (part Try.f39 [1,1,1,0,1,0,0]):=by
 have:((av (aL Try.f39)).filter fun x=>Nat.beq x.1 0)=[(0,.loop (part Try.f39 [1,1,1,0,1,0,0]))]:=by kernel_rfl
 intro b hb
 have hm:(0,b) ∈ ((av (aL Try.f39)).filter fun x=>Nat.beq x.1 0):=List.mem_filter.2 ⟨hb,rfl⟩
 rw[this] at hm;simpa using hm
theorem LJ:∀ b,(2,b) ∈ av (aL Try.f39)→b=.loop (part Try.f39 [1,1,1,1,1,0,1,0,0]):=by
 have:((av (aL Try.f39)).filter fun x=>Nat.beq x.1 2)=[(2,.loop (part Try.f39 [1,1,1,1,1,0,1,0,0]))]:=by kernel_rfl
 intro b hb
 have hm:(2,b) ∈ ((av (aL Try.f39)).filter fun x=>Nat.beq x.1 2):=List.mem_filter.2 ⟨hb,rfl⟩
 rw[this] at hm;simpa using hm
theorem NT:cM (part Try.f39 [1,1,1,1,1,0,1,0,0])=[(.tmp 71,#[72],Ft,Dx)]:=by kernel_rfl
section
variable (n:Nat) (w:Int) (ls ld lm:Nat) (zs zd zm sz kd:Nat→Int) (H:ae) (p q i cur:Int) (sure:Bool)
theorem NB (hm:lm≤1000):exec (bF (n+14) 39 78) (.block 0 (.loop (part Try.f39 [1,1,1,0,1,0,0]))) (nR w ls ld lm zs zd zm sz kd p q sure 0) (cK w ls ld lm zs zd zm 0 []::H)=some (cond (bD (sl ls zm) lm) (.ret,[(10,.ptr 0 2 0 0)],cK w ls ld lm zs zd zm 3 []::H) (.normal,nR w ls ld lm zs zd zm sz kd p q sure (Int.ofNat lm)++[(31,.bool false)],cK w ls ld lm zs zd zm 0 []::H)):=by
 refine gV (n:=n+14) (f:=39) (nt:=78) (c:=part Try.f39 [1,1,1,0,1,0,0]) 0 (fun j=>nR w ls ld lm zs zd zm sz kd p q sure (j:Int)) (fun _=>cK w ls ld lm zs zd zm 0 []::H) lm (sl ls zm) (fun _=>([(10,.ptr 0 2 0 0)],cK w ls ld lm zs zd zm 3 []::H)) (nR w ls ld lm zs zd zm sz kd p q sure (Int.ofNat lm)++[(31,.bool false)],cK w ls ld lm zs zd zm 0 []::H) (by omega) (fun j hj=>?_) ?_
 · have ej:ay .i64 (j:Int) (Int.ofNat 1)=((j+1:Nat):Int):=by rw[aR,show Int.ofNat 1=1 from rfl];exact bX (by omega) (by omega)
   have es:az .i64 (j:Int) (Int.ofNat 1)=(j:Int)-1:=by rw[aQ,show Int.ofNat 1=1 from rfl];exact bX (by omega) (by omega)
   have et:((j:Int)-1).toNat=j-1:=by omega
   have e2:Int.negSucc 1=-2:=rfl
   refine bz (KP n w ls ld lm zs zd zm sz kd H p q (j:Int) sure) (bU (n+13) 1) (ah _ _) (ai _ _) ?_
   have hs:sl ls zm j=(!(decide (-2≤zm j) && decide (zm j<ls)) || (decide (0<j) && decide (zm j≤zm (j-1)))):=rfl
   rw[es,e2]
   repeat' first | (refine Tr.an (fun hc=>?_) (fun hc=>?_)<;>(try simp (disch:=omega) only[nV,nW,Nat.mul_one,et] at hc)<;>try omega) | (refine Tr.ao ?_ ?_;· (try simp (disch:=omega) only[nV,nW,Nat.mul_one,et]);try omega) | (refine Tr.ak ?_ ?_;· first | exact trivial | rfl | exact ⟨rfl,rfl⟩ | exact ⟨rfl,rfl,rfl⟩ | (simp (disch:=omega) only[nV,nW,Nat.mul_one,et];done) | ((try simp (disch:=omega) only[nV,nW,Nat.mul_one,et]);omega)) | fail
   all_goals refine Tr.aq ?_
   all_goals first
    | (rw[if_pos (by rw[hs];simp;omega)];rfl)
    | (rw[if_neg (by rw[hs];simp;omega)];exact ⟨rfl,by rw[ej];rfl⟩)
    | fail
 · obtain ⟨x,h1,rfl⟩:=bz (Q:=fun x=>x=(.exit 0,nR w ls ld lm zs zd zm sz kd p q sure (Int.ofNat lm)++[(31,.bool false)],cK w ls ld lm zs zd zm 0 []::H)) (KP n w ls ld lm zs zd zm sz kd H p q (Int.ofNat lm) sure) (bU (n+13) 1) (ah _ _) (ai _ _) (by
    repeat' first | (refine Tr.an (fun hc=>?_) (fun hc=>?_)<;>(try simp (disch:=omega) only[nV,nW] at hc)<;>try omega) | (refine Tr.ao ?_ ?_;· (try simp (disch:=omega) only[nV,nW]);try omega) | (refine Tr.ak ?_ ?_;· first | exact trivial | rfl | exact ⟨rfl,rfl⟩ | exact ⟨rfl,rfl,rfl⟩ | (simp (disch:=omega) only[nV,nW];done) | ((try simp (disch:=omega) only[nV,nW]);omega)) | fail
    exact Tr.aq rfl)
   exact h1
theorem Lz (q:Int) (L0:b6) (G:ae):exec (yb n) Ft (v8 w ls ld lm zs zd zm sz kd sure i cur q) (af::af::af::L0::G)=some (.normal,v7 q,af::af::af::L0::G):=by
 have e:aH (yb n) (il aG n 0) aJ aK Ft (hints (v8 w ls ld lm zs zd zm sz kd sure i cur q)) (af::af::af::L0::G)=.ok (.normal,hints (v7 q),af::af::af::L0::G):=by kernel_rfl
 have:=bK (cx:=yb n) (bk n) Ft (ah _ _) (ai _ _) (hints (v8 w ls ld lm zs zd zm sz kd sure i cur q)) (af::af::af::L0::G) _ (by rw[e];rfl)
 rw[aw] at this
 simp only[dg.st,aw] at this
 exact this
theorem JF:(il (b7 aG 85 (zy iA)) (n+2) 0).Ok (cd (n+2)):=by
 refine bQ _ (n+2) 0 (fun k=>bI (bB _) (fun args p v hg hp H=>?_))
 unfold zy at hg
 split at hg
 · simp only[nP] at hg
   obtain ⟨rfl,rfl⟩:=hg
   obtain ⟨rfl,hp⟩:=hp
   rw[eB,decide_eq_true_eq] at hp
   rw[show n+2+k=n+k+2 by omega]
   exact Mc _ H _ _ _ _ hp
 · cases hg
theorem LN (hm:lm≤1000) (q:Int) (L0:bw) (B:aj):∃ fr' lv,exec (yb (n+2)) Dx (v7 q) (af::af::af::aB 3 [(0,.loop L0)]::cK w ls ld lm zs zd zm 0 [(0,B)]::H)=some (cond (iA zm lm q) Ex.normal Ex.ret,fr',lv::af::af::aB 3 [(0,.loop L0)]::cK w ls ld lm zs zd zm (cond (iA zm lm q) 0 14) [(0,B)]::H):=by
 have key:(aH (yb (n+2)) (il (b7 aG 85 (zy iA)) (n+2) 0) aJ aK Dx (hints (v7 q)) (af::af::af::aB 3 [(0,.loop L0)]::cK w ls ld lm zs zd zm 0 [(0,B)]::H)).all fun x=>x.1=cond (iA zm lm q) Ex.normal Ex.ret∧∃ lv,x.2.2=lv::af::af::aB 3 [(0,.loop L0)]::cK w ls ld lm zs zd zm (cond (iA zm lm q) 0 14) [(0,B)]::H:=by
  rw[N8]
  repeat' first | (refine Tr.an (fun hc=>?_) (fun hc=>?_)<;>(try simp (disch:=omega) only[nV,nW] at hc)<;>try omega) | (refine Tr.ao ?_ ?_;· (try simp (disch:=omega) only[nV,nW]);try omega) | (refine Tr.ak ?_ ?_;· first | exact trivial | rfl | exact ⟨rfl,rfl⟩ | exact ⟨rfl,rfl,rfl⟩ | (simp (disch:=omega) only[nV,nW];done) | ((try simp (disch:=omega) only[nV,nW]);omega)) | fail
  all_goals refine Tr.aq ?_
  all_goals rw[hc];exact ⟨rfl,_,rfl⟩
 obtain ⟨x,h1,h3,lv,h4⟩:=key
 have:=bK (cx:=yb (n+2)) (JF n) Dx (ah _ _) (ai _ _) _ _ _ h1
 rw[aw] at this
 refine ⟨strip x.2.1,lv,this.trans ?_⟩
 obtain ⟨e,f,g⟩:=x
 dsimp only at h3 h4
 subst h3;subst h4
 rfl
theorem HB (hm:lm≤1000):iK 3 (n+1) ls kd cur sure (fun _=>cK w ls ld lm zs zd zm 0 [(0,.loop (j4 w ls ld lm zs zd zm sz kd sure i cur))]::H) (fun _=>cK w ls ld lm zs zd zm 14 [(0,.loop (CX w ls ld lm zs zd zm sz kd sure i cur))]::H) (fun j=>iA zm lm ((j:Int)-2)) where
 hit:=fun j hj hh L=>by
  obtain ⟨fr',lv,h2⟩:=LN n w ls ld lm zs zd zm H hm ((j:Int)-2) L (.loop { j4 w ls ld lm zs zd zm sz kd sure i cur with state:=.busy })
  have ha:=Lz (n+2) w ls ld lm zs zd zm sz kd i cur sure ((j:Int)-2) (aB 3 [(0,.loop L)]) (cK w ls ld lm zs zd zm 0 [(0,.loop (j4 w ls ld lm zs zd zm sz kd sure i cur))]::H)
  cases hi:iA zm lm ((j:Int)-2) with
  | true =>
    rw[hi] at h2
    exact dE (P:=Try.prog) (ora:=mo) (KT:=Kt.kt) (fu:=100000) (n:=n+2) (d:=3) (i:=3) (args:=[.int .i64 ((j:Int)-2)]) (H:=af::af::aB 3 [(0,.loop L)]::cK w ls ld lm zs zd zm 0 [(0,.loop (j4 w ls ld lm zs zd zm sz kd sure i cur))]::H) (l:=j4 w ls ld lm zs zd zm sz kd sure i cur) (l1:=j4 w ls ld lm zs zd zm sz kd sure i cur) (l2:={ j4 w ls ld lm zs zd zm sz kd sure i cur with state:=.busy }) (fr:=v8 w ls ld lm zs zd zm sz kd sure i cur ((j:Int)-2)) rfl rfl rfl rfl ha rfl rfl h2 rfl
  | false =>
    rw[hi] at h2
    exact dE (P:=Try.prog) (ora:=mo) (KT:=Kt.kt) (fu:=100000) (n:=n+2) (d:=3) (i:=3) (args:=[.int .i64 ((j:Int)-2)]) (H:=af::af::aB 3 [(0,.loop L)]::cK w ls ld lm zs zd zm 0 [(0,.loop (j4 w ls ld lm zs zd zm sz kd sure i cur))]::H) (l:=j4 w ls ld lm zs zd zm sz kd sure i cur) (l1:=j4 w ls ld lm zs zd zm sz kd sure i cur) (l2:={ j4 w ls ld lm zs zd zm sz kd sure i cur with state:=.busy }) (fr:=v8 w ls ld lm zs zd zm sz kd sure i cur ((j:Int)-2)) rfl rfl rfl rfl ha rfl rfl h2 rfl
 skip:=fun j hj hh=>rfl
def Bz (kd:Nat→Int) (sure:Bool) (ls:Nat) (z:Nat→Int) (m:Nat) (i:Nat):Bool:=bD (dC kd sure (z i) (fun j=>iA z m ((j:Int)-2))) (ls+2)
theorem N0 (hm:lm≤1000) (hls:ls≤10) (hc:-2≤cur∧cur<ls) (b:Bool) (hb:bD (dC kd sure cur (fun j=>iA zm lm ((j:Int)-2))) (ls+2)=b):exec (bF (n+14) 39 78) (.rangeFunc (.tmp 71) #[72] Ft Dx) (lu w ls ld lm zs zd zm sz kd sure i cur) (cK w ls ld lm zs zd zm 0 []::H) =
 some (cond b Ex.ret Ex.normal,lu w ls ld lm zs zd zm sz kd sure i cur,cK w ls ld lm zs zd zm (cond b 14 0) [(0,.dead)]::H):=by
 have hn:=AF 3 (n+9) 0 w ls ld zs zd sz kd cur sure (HB (n+8) w ls ld lm zs zd zm sz kd H i cur sure hm) hc hls
 rw[hb] at hn
 cases b with
 | true =>
   rw[if_pos rfl] at hn
   exact c5 (cx:=bF (n+14) 39 78) (l:=CX w ls ld lm zs zd zm sz kd sure i cur) (f:=.tmp 71) (ps:=#[72]) (fr:=lu w ls ld lm zs zd zm sz kd sure i cur) (H:=cK w ls ld lm zs zd zm 0 []::H) (g:=110) (a:=[]) (b:=gv 0 w ls ld zs zd sz kd cur sure) (e:=.ret) rfl rfl rfl hn rfl rfl rfl
 | false =>
   rw[if_neg (by simp)] at hn
   exact c5 (cx:=bF (n+14) 39 78) (l:=j4 w ls ld lm zs zd zm sz kd sure i cur) (f:=.tmp 71) (ps:=#[72]) (fr:=lu w ls ld lm zs zd zm sz kd sure i cur) (H:=cK w ls ld lm zs zd zm 0 []::H) (g:=110) (a:=[]) (b:=gv 0 w ls ld zs zd sz kd cur sure) (e:=.normal) rfl rfl rfl hn rfl rfl rfl
theorem NC (hm:lm≤1000) (hls:ls≤10) (hz:∀ i,i<lm→-2≤zm i∧zm i<ls):exec (bF (n+14) 39 78) (.block 2 (.loop (part Try.f39 [1,1,1,1,1,0,1,0,0]))) (nT w ls ld lm zs zd zm sz kd sure 0) (cK w ls ld lm zs zd zm 0 []::H)=some (cond (bD (Bz kd sure ls zm lm) lm) (.ret,lu w ls ld lm zs zd zm sz kd sure ((fN (Bz kd sure ls zm lm) lm 0:Nat):Int) (zm (fN (Bz kd sure ls zm lm) lm 0)),cK w ls ld lm zs zd zm 14 [(0,.dead)]::H) (.normal,nT w ls ld lm zs zd zm sz kd sure (Int.ofNat lm)++[(65,.bool false)],cK w ls ld lm zs zd zm 0 []::H)):=by
 refine gV (n:=n+14) (f:=39) (nt:=78) (c:=part Try.f39 [1,1,1,1,1,0,1,0,0]) 2 (fun j=>nT w ls ld lm zs zd zm sz kd sure (j:Int)) (fun _=>cK w ls ld lm zs zd zm 0 []::H) lm (Bz kd sure ls zm lm) (fun j=>(lu w ls ld lm zs zd zm sz kd sure (j:Int) (zm j),cK w ls ld lm zs zd zm 14 [(0,.dead)]::H)) (nT w ls ld lm zs zd zm sz kd sure (Int.ofNat lm)++[(65,.bool false)],cK w ls ld lm zs zd zm 0 []::H) (by omega) (fun j hj=>?_) ?_
 · have ej:ay .i64 (j:Int) (Int.ofNat 1)=((j+1:Nat):Int):=by rw[aR,show Int.ofNat 1=1 from rfl];exact bX (by omega) (by omega)
   have ei:al 0 (j:Int) 1=j:=by rw[bT];omega
   have h0:bm (cK w ls ld lm zs zd zm 0 []::H)=3:=rfl
   have hr:=N0 n w ls ld lm zs zd zm sz kd H (j:Int) (zm j) sure hm hls (hz j hj) (Bz kd sure ls zm lm j) rfl
   refine bz (N9 n w ls ld lm zs zd zm sz kd H (j:Int) (zm j) sure (Bz kd sure ls zm lm j)) (bU (n+13) 1) (ah _ _) (eX (ai _ _) (fun f ps a b _ hm x hx=>?_)) ?_
   · rw[NT] at hm
     simp only[List.mem_cons,Prod.mk.injEq,List.not_mem_nil,or_false] at hm
     obtain ⟨rfl,rfl,rfl,rfl⟩:=hm
     refine hr.trans ?_
     rcases Tr.bH hx with ⟨hc,hx⟩ | ⟨hc,hx⟩
     · rw[← Tr.ab hx,hc];simp only[dg.st,aw];rfl
     · rw[← Tr.ab hx,hc];simp only[dg.st,aw];rfl
   · rw[ei,ej,h0]
     repeat' first | (refine Tr.an (fun hc=>?_) (fun hc=>?_)<;>(try simp (disch:=omega) only[nV,nW] at hc)<;>try omega) | (refine Tr.ao ?_ ?_;· (try simp (disch:=omega) only[nV,nW]);try omega) | (refine Tr.ak ?_ ?_;· first | exact trivial | rfl | exact ⟨rfl,rfl⟩ | exact ⟨rfl,rfl,rfl⟩ | (simp (disch:=omega) only[nV,nW];done) | ((try simp (disch:=omega) only[nV,nW]);omega)) | fail
     all_goals refine Tr.aq ?_
     · rw[if_pos hc];rfl
     · rw[if_neg (by rw[hc];simp)];exact ⟨rfl,rfl⟩
 · obtain ⟨x,h1,rfl⟩:=bz (Q:=fun x=>x=(.exit 2,nT w ls ld lm zs zd zm sz kd sure (Int.ofNat lm)++[(65,.bool false)],cK w ls ld lm zs zd zm 0 []::H)) (KQ n w ls ld lm zs zd zm sz kd H (Int.ofNat lm) sure) (bU (n+13) 1) (ah _ _) (eX (ai _ _) (fun f ps a b _ hm x hx=>(Tr.ag hx).elim)) (by
    repeat' first | (refine Tr.an (fun hc=>?_) (fun hc=>?_)<;>(try simp (disch:=omega) only[nV,nW] at hc)<;>try omega) | (refine Tr.ao ?_ ?_;· (try simp (disch:=omega) only[nV,nW]);try omega) | (refine Tr.ak ?_ ?_;· first | exact trivial | rfl | exact ⟨rfl,rfl⟩ | exact ⟨rfl,rfl,rfl⟩ | (simp (disch:=omega) only[nV,nW];done) | ((try simp (disch:=omega) only[nV,nW]);omega)) | fail
    exact Tr.aq rfl)
   exact h1
def Iz (w:Int) (ls ld:Nat) (zs zd kd:Nat→Int) (sure:Bool) (p q:Int) (m:Nat) (z:Nat→Int):Int :=
 if ij w ls ld zs zd p q≠0 then ij w ls ld zs zd p q
 else if bD (sl ls z) m=true then 3
 else if iA z m p=false then 14
 else if iA z m q=true then 14
 else if bD (Bz kd sure ls z m) m=true then 14 else 0
theorem uZ (h:ij w ls ld zs zd p q=0):gu w ls ld zs zd (ft zd ld) (dR w ls ld zs zd)=z7 w ls ld zs zd p q:=by
 unfold z7
 rw[if_neg (fun x=>x h)];rfl
theorem PL (hm:lm≤1000):cd (n+15) (.fn 39) [aa w ls zs ld zd,.int .i64 p,.int .i64 q,bn lm zm false,.bool sure] H=some (.int .i64 (Iz w ls ld zs zd (dR w ls ld zs zd) sure p q lm zm),H):=by
 by_cases he:ij w ls ld zs zd p q=0
 · obtain ⟨h,h1,h2,h3⟩:=g7 he
   have c:=iL h
   have lk:=NB n w ls ld lm zs zd zm (ft zd ld) (dR w ls ld zs zd) H p q sure hm
   have ct68:∀ k,(b7 aG 68 (AT (aa w ls zs ld zd) p q (gu w ls ld zs zd (ft zd ld) (dR w ls ld zs zd)) 0)).Ok (cd (n+14+k)):=fun k=>qY n w ls ld zs zd p q k _ _ (uZ w ls ld zs zd p q he) he.symm
   cases hx:bD (sl ls zm) lm with
   | true =>
     rw[hx] at lk
     refine bp (n:=n+14) Try.func39 rfl rfl rfl (OL n w ls ld lm zs zd zm (ft zd ld) (dR w ls ld zs zd) H p q sure) (bQ _ (n+14) 0 ct68) (bf (cN (ah _ _) 2) IW (fun x hx=>by rw[← Tr.ab hx];exact lk)) (ai _ _) ?_
     unfold Iz
     rw[he,if_neg (by simp),if_pos hx]
     repeat' first | (refine Tr.an (fun hc=>?_) (fun hc=>?_)<;>(try simp (disch:=omega) only[nV,nW] at hc)<;>try omega) | (refine Tr.ao ?_ ?_;· (try simp (disch:=omega) only[nV,nW]);try omega) | (refine Tr.ak ?_ ?_;· first | exact trivial | rfl | exact ⟨rfl,rfl⟩ | exact ⟨rfl,rfl,rfl⟩ | (simp (disch:=omega) only[nV,nW];done) | ((try simp (disch:=omega) only[nV,nW]);omega)) | fail
     exact Tr.aq ⟨rfl,rfl⟩
   | false =>
     rw[hx] at lk
     have hz:∀ i,i<lm→-2≤zm i∧zm i<ls:=fun i hi=>by
      cases hq:bx ls (zm i) with
      | true=>simpa[bx] using hq
      | false =>
        have:=(bV (sl ls zm) lm).2 ⟨i,hi,by unfold sl;rw[hq];rfl⟩
        rw[this] at hx;cases hx
     have l2:=NC n w ls ld lm zs zd zm (ft zd ld) (dR w ls ld zs zd) H sure hm (by omega) hz
     refine bp (n:=n+14) Try.func39 rfl rfl rfl (OM n w ls ld lm zs zd zm (ft zd ld) (dR w ls ld zs zd) H p q ((fN (Bz (dR w ls ld zs zd) sure ls zm lm) lm 0:Nat):Int) (zm (fN (Bz (dR w ls ld zs zd) sure ls zm lm) lm 0)) sure (bD (Bz (dR w ls ld zs zd) sure ls zm lm) lm) iA) (bQ _ (n+14) 0 (fun k=>bI (ct68 k) (fun args p v hg hp H=>?_))) (bf (bf (ah _ _) LJ (fun x hx=>?_)) IW (fun x hx=>?_)) (ai _ _) ?_
     · unfold zy at hg
       split at hg
       · simp only[nP] at hg
         obtain ⟨rfl,rfl⟩:=hg
         obtain ⟨rfl,hp⟩:=hp
         rw[eB,decide_eq_true_eq] at hp
         rw[show n+14+k=n+12+k+2 by omega]
         exact Mc _ H _ _ _ _ hp
       · cases hg
     · refine Eq.trans l2 ?_
       rcases Tr.bH hx with ⟨hc,hx⟩ | ⟨hc,hx⟩
       · rw[← Tr.ab hx,hc];simp only[dg.st,aw];rfl
       · rw[← Tr.ab hx,hc];simp only[dg.st,aw];rfl
     · rw[← Tr.ab hx];simp only[dg.st,aw];exact lk
     · unfold Iz
       rw[he,if_neg (by simp),if_neg (by rw[hx];simp)]
       repeat' first | (refine Tr.an (fun hc=>?_) (fun hc=>?_)<;>(try simp (disch:=omega) only[nV,nW] at hc)<;>try omega) | (refine Tr.ao ?_ ?_;· (try simp (disch:=omega) only[nV,nW]);try omega) | (refine Tr.ak ?_ ?_;· first | exact trivial | rfl | exact ⟨rfl,rfl⟩ | exact ⟨rfl,rfl,rfl⟩ | (simp (disch:=omega) only[nV,nW];done) | ((try simp (disch:=omega) only[nV,nW]);omega)) | fail
       all_goals refine Tr.aq ⟨?_,rfl⟩
       all_goals first
        | (simp_all;done)
        | (simp_all;rfl)
        | fail
 · refine bp (n:=n+14) Try.func39 rfl rfl rfl (OK n w ls ld lm zs zd zm H p q (ij w ls ld zs zd p q) sure) (bQ _ (n+14) 0 (fun k=>qY n w ls ld zs zd p q k _ _ (by unfold z7;rw[if_pos he]) rfl)) (cN (cN (ah _ _) 0) 2) (ai _ _) ?_
   unfold Iz
   rw[if_pos he]
   repeat' first | (refine Tr.an (fun hc=>?_) (fun hc=>?_)<;>(try simp (disch:=omega) only[nV,nW] at hc)<;>try omega) | (refine Tr.ao ?_ ?_;· (try simp (disch:=omega) only[nV,nW]);try omega) | (refine Tr.ak ?_ ?_;· first | exact trivial | rfl | exact ⟨rfl,rfl⟩ | exact ⟨rfl,rfl,rfl⟩ | (simp (disch:=omega) only[nV,nW];done) | ((try simp (disch:=omega) only[nV,nW]);omega)) | fail
   exact Tr.aq ⟨rfl,rfl⟩
end
end Go.Eng
