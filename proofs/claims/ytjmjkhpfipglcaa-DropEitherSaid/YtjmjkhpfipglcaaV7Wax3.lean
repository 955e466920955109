/- Drop: CheckWay, as it is defined. -/
import Derived.Test.YtjmjkhpfipglcaaV7DrVx8
import Derived.Test.YtjmjkhpfipglcaaV7Wdx2
section
namespace Go.Eng
open Go.Proofs
set_option linter.unusedVariables false
set_option linter.unusedSimpArgs false
set_option maxRecDepth 100000
noncomputable def dP (full:Bool) (x:Nat) (m:Nat) (z:Nat→Int) (sure:Bool) (j:Int):aO:=[(1,bn m z full),(2,.bool sure),(3,.ptr 0 0 0 0),(x,.int .i64 j)]
noncomputable def pG (full:Bool) (m:Nat) (z:Nat→Int) (sure:Bool) (j k:Int):aO:=[(1,bn m z full),(2,.bool sure),(3,.ptr 0 0 0 0),(8,.int .i64 j),(9,.int .i64 k)]
theorem KL (n:Nat) (w:Int) (ls ld m:Nat) (zs zd z:Nat→Int) (H:ae) (j:Int) (sure:Bool) (pl:Int→Bool) (full:Bool):aH (bF (n+8) 33 76) (il (b7 aG 87 (Du (aa w ls zs ld zd) pl)) (n+8) 0) aJ aK (part Try.f33 [1,1,1,0,1,0,0]) (hints (dP full 7 m z sure j)) (a6 w ls ld zs zd::H) =
 Tr.ite (bA j (Int.ofNat m)) (Tr.req (br j m) (Tr.req (bt (al 0 j 1) m) (Tr.reqP (aa w ls zs ld zd=aa w ls zs ld zd) (Tr.ite (aD (pl (z (al 0 j 1)))) (Tr.ok (Ex.ret,[(6,AV.int .i64 (Int.ofNat 2),some 1)],a6 w ls ld zs zd::H)) (Tr.ok (Ex.normal,[(1,AV.slcT none (Row.M [aC.arr .i64 z m]) 1 m full,none),(2,AV.bool sure,none),(3,AV.ptr 0 0 0 0,none),(7,AV.int .i64 (ay .i64 j (Int.ofNat 1)),none)],a6 w ls ld zs zd::H)))))) (Tr.ok (Ex.exit 0,[(1,AV.slcT none (Row.M [aC.arr .i64 z m]) 1 m full,none),(2,AV.bool sure,none),(3,AV.ptr 0 0 0 0,none),(7,AV.int .i64 j,none),(27,AV.bool false,some 1)],a6 w ls ld zs zd::H)):=by kernel_rfl
theorem KN (n:Nat) (w:Int) (ls ld m:Nat) (zs zd z:Nat→Int) (H:ae) (j k:Int) (sure:Bool) (full:Bool):aH (bF (n+8) 33 76) (il aG (n+8) 0) aJ aK (part Try.f33 [1,1,1,1,0,1,0,0,1,0,0,1,0,0]) (hints (pG full m z sure j k)) (a6 w ls ld zs zd::H) =
 Tr.ite (bA k j) (Tr.req (br j m) (Tr.req (bt (al 0 j 1) m) (Tr.req (br k m) (Tr.req (bt (al 0 k 1) m) (Tr.ite (aF (z (al 0 j 1)) (z (al 0 k 1))) (Tr.ok (Ex.ret,[(6,AV.int .i64 (Int.ofNat 15),some 1)],a6 w ls ld zs zd::H)) (Tr.ok (Ex.normal,[(1,AV.slcT none (Row.M [aC.arr .i64 z m]) 1 m full,none),(2,AV.bool sure,none),(3,AV.ptr 0 0 0 0,none),(8,AV.int .i64 j,none),(9,AV.int .i64 (ay .i64 k (Int.ofNat 1)),none)],a6 w ls ld zs zd::H))))))) (Tr.ok (Ex.exit 4,[(1,AV.slcT none (Row.M [aC.arr .i64 z m]) 1 m full,none),(2,AV.bool sure,none),(3,AV.ptr 0 0 0 0,none),(8,AV.int .i64 j,none),(9,AV.int .i64 k,none),(45,AV.bool false,some 1)],a6 w ls ld zs zd::H)):=by kernel_rfl
theorem N7 (n:Nat) (w:Int) (ls ld m:Nat) (zs zd z:Nat→Int) (H:ae) (j:Int) (sure e:Bool) (full:Bool):aH (bF (n+8) 33 76) (il aG (n+8) 0) (dc aJ 4 (pG full m z sure j 0) (a6 w ls ld zs zd::H) (.ite e (.ok (.ret,[(6,.int .i64 15,none)],a6 w ls ld zs zd::H)) (.ok (.normal,hints (pG full m z sure j j++[(45,.bool false)]),a6 w ls ld zs zd::H)))) aK (part Try.f33 [1,1,1,1,0,1,0,0]) (hints (dP full 8 m z sure j)) (a6 w ls ld zs zd::H) =
 (fun (Z0:aO)=>Tr.ite (bA j (Int.ofNat m)) (Tr.reqP (Z0=Z0∧a6 w ls ld zs zd::H=a6 w ls ld zs zd::H) (Tr.ite e (Tr.ok (Ex.ret,[(6,AV.int .i64 (Int.ofNat 15),none)],a6 w ls ld zs zd::H)) (Tr.ok (Ex.normal,[(1,AV.slcT none (Row.M [aC.arr .i64 z m]) 1 m full,none),(2,AV.bool sure,none),(3,AV.ptr 0 0 0 0,none),(8,AV.int .i64 (ay .i64 j (Int.ofNat 1)),none)],a6 w ls ld zs zd::H)))) (Tr.ok (Ex.exit 2,[(1,AV.slcT none (Row.M [aC.arr .i64 z m]) 1 m full,none),(2,AV.bool sure,none),(3,AV.ptr 0 0 0 0,none),(8,AV.int .i64 j,none),(40,AV.bool false,some 1)],a6 w ls ld zs zd::H))) [(1,AV.slcT none (Row.M [aC.arr .i64 z m]) 1 m full),(2,AV.bool sure),(3,AV.ptr 0 0 0 0),(8,AV.int .i64 j),(9,AV.int .i64 (Int.ofNat 0))]:=by kernel_rfl
theorem KM (n:Nat) (w:Int) (ls ld m:Nat) (zs zd z:Nat→Int) (H:ae) (j:Int) (sure:Bool) (full:Bool):aH (bF (n+8) 33 76) (il aG (n+8) 0) (fY aJ 4) aK (part Try.f33 [1,1,1,1,0,1,0,0]) (hints (dP full 8 m z sure j)) (a6 w ls ld zs zd::H) =
 Tr.ite (bA j (Int.ofNat m)) Tr.bad (Tr.ok (Ex.exit 2,[(1,AV.slcT none (Row.M [aC.arr .i64 z m]) 1 m full,none),(2,AV.bool sure,none),(3,AV.ptr 0 0 0 0,none),(8,AV.int .i64 j,none),(40,AV.bool false,some 1)],a6 w ls ld zs zd::H)):=by kernel_rfl
theorem KO (n:Nat) (w:Int) (ls ld m:Nat) (zs zd z:Nat→Int) (H:ae) (j:Int) (sure:Bool) (side:Int→Int→Prop) (hl:Int→Int→Bool) (full:Bool):aH (bF (n+8) 33 76) (il (b7 aG 82 (El (aa w ls zs ld zd) sure side hl)) (n+8) 0) aJ aK (part Try.f33 [1,1,1,1,1,0,1,0,0]) (hints (dP full 10 m z sure j)) (a6 w ls ld zs zd::H) =
 Tr.ite (bA j (Int.ofNat m)) (Tr.req (br (az .i64 j (Int.ofNat 1)) m) (Tr.req (bt (al 0 (az .i64 j (Int.ofNat 1)) 1) m) (Tr.req (br j m) (Tr.req (bt (al 0 j 1) m) (Tr.reqP (aa w ls zs ld zd=aa w ls zs ld zd∧side (z (al 0 (az .i64 j (Int.ofNat 1)) 1)) (z (al 0 j 1))∧sure=sure) (Tr.ite (aD (hl (z (al 0 (az .i64 j (Int.ofNat 1)) 1)) (z (al 0 j 1)))) (Tr.ok (Ex.ret,[(6,AV.int .i64 (Int.ofNat 17),some 1)],a6 w ls ld zs zd::H)) (Tr.ok (Ex.normal,[(1,AV.slcT none (Row.M [aC.arr .i64 z m]) 1 m full,none),(2,AV.bool sure,none),(3,AV.ptr 0 0 0 0,none),(10,AV.int .i64 (ay .i64 j (Int.ofNat 1)),none)],a6 w ls ld zs zd::H)))))))) (Tr.ok (Ex.exit 6,[(1,AV.slcT none (Row.M [aC.arr .i64 z m]) 1 m full,none),(2,AV.bool sure,none),(3,AV.ptr 0 0 0 0,none),(10,AV.int .i64 j,none),(60,AV.bool false,some 1)],a6 w ls ld zs zd::H)):=by kernel_rfl
theorem OF (n:Nat) (w:Int) (ls ld m:Nat) (zs zd z:Nat→Int) (H:ae) (e:Int) (sure:Bool) (full:Bool):aW Try.prog (cd (n+8)) 100000 33 Try.f33 (Kt.kt 33) (il (b7 aG 20 (vB (aa w ls zs ld zd) e)) (n+8) 0) (fY aJ 0) aK [(aa w ls zs ld zd,none),(bn m z full,none),(.bool sure,none)] H =
 Tr.reqP (aa w ls zs ld zd=aa w ls zs ld zd) (Tr.ite (aD (aF e (Int.ofNat 0))) (Tr.reqP (aa w ls zs ld zd=aa w ls zs ld zd) (Tr.ok ((AV.int .i64 e,none),H))) (Tr.ite (bA (Int.ofNat m) (Int.ofNat 2)) (Tr.ok ((AV.int .i64 (Int.ofNat 6),some 1),H)) (Tr.ite (bA (Int.ofNat 12) (Int.ofNat m)) (Tr.ok ((AV.int .i64 (Int.ofNat 6),some 1),H)) Tr.bad))):=by kernel_rfl
theorem OD (n:Nat) (w:Int) (ls ld m:Nat) (zs zd z:Nat→Int) (H:ae) (e:Int) (sure:Bool) (full:Bool):aW Try.prog (cd (n+8)) 100000 33 Try.f33 (Kt.kt 33) (il (b7 aG 20 (vB (aa w ls zs ld zd) e)) (n+8) 0) (dc aJ 0 (dP full 7 m z sure 0) (a6 w ls ld zs zd::H) (.ok (.ret,[(6,.int .i64 2,none)],a6 w ls ld zs zd::H))) aK [(aa w ls zs ld zd,none),(bn m z full,none),(.bool sure,none)] H =
 (fun (Z0:aO)=>Tr.reqP (aa w ls zs ld zd=aa w ls zs ld zd) (Tr.ite (aD (aF e (Int.ofNat 0))) (Tr.reqP (aa w ls zs ld zd=aa w ls zs ld zd) (Tr.ok ((AV.int .i64 e,none),H))) (Tr.ite (bA (Int.ofNat m) (Int.ofNat 2)) (Tr.ok ((AV.int .i64 (Int.ofNat 6),some 1),H)) (Tr.ite (bA (Int.ofNat 12) (Int.ofNat m)) (Tr.ok ((AV.int .i64 (Int.ofNat 6),some 1),H)) (Tr.reqP (Z0=Z0∧a6 w ls ld zs zd::H=a6 w ls ld zs zd::H) (Tr.ok ((AV.int .i64 (Int.ofNat 2),none),H))))))) [(1,AV.slcT none (Row.M [aC.arr .i64 z m]) 1 m full),(2,AV.bool sure),(3,AV.ptr 0 0 0 0),(7,AV.int .i64 (Int.ofNat 0))]:=by kernel_rfl
theorem OE (n:Nat) (w:Int) (ls ld m:Nat) (zs zd z:Nat→Int) (H:ae) (e:Int) (sure q2 q3:Bool) (full:Bool):aW Try.prog (cd (n+8)) 100000 33 Try.f33 (Kt.kt 33) (il (b7 aG 20 (vB (aa w ls zs ld zd) e)) (n+8) 0) (dc (dc (dc aJ 6 (dP full 10 m z sure 1) (a6 w ls ld zs zd::H) (.ite q3 (.ok (.ret,[(6,.int .i64 17,none)],a6 w ls ld zs zd::H)) (.ok (.normal,hints (dP full 10 m z sure (Int.ofNat m)++[(60,.bool false)]),a6 w ls ld zs zd::H)))) 2 (dP full 8 m z sure 0) (a6 w ls ld zs zd::H) (.ite q2 (.ok (.ret,[(6,.int .i64 15,none)],a6 w ls ld zs zd::H)) (.ok (.normal,hints (dP full 8 m z sure (Int.ofNat m)++[(40,.bool false)]),a6 w ls ld zs zd::H)))) 0 (dP full 7 m z sure 0) (a6 w ls ld zs zd::H) (.ok (.normal,hints (dP full 7 m z sure (Int.ofNat m)++[(27,.bool false)]),a6 w ls ld zs zd::H))) aK [(aa w ls zs ld zd,none),(bn m z full,none),(.bool sure,none)] H =
 (fun (Z0:Nat×AV)=>Tr.reqP (aa w ls zs ld zd=aa w ls zs ld zd) (Tr.ite (aD (aF e (Int.ofNat 0))) (Tr.reqP (aa w ls zs ld zd=aa w ls zs ld zd) (Tr.ok ((AV.int .i64 e,none),H))) (Tr.ite (bA (Int.ofNat m) (Int.ofNat 2)) (Tr.ok ((AV.int .i64 (Int.ofNat 6),some 1),H)) (Tr.ite (bA (Int.ofNat 12) (Int.ofNat m)) (Tr.ok ((AV.int .i64 (Int.ofNat 6),some 1),H)) (Tr.reqP ([Z0,(2,AV.bool sure),(3,AV.ptr 0 0 0 0),(7,AV.int .i64 (Int.ofNat 0))]=[Z0,(2,AV.bool sure),(3,AV.ptr 0 0 0 0),(7,AV.int .i64 (Int.ofNat 0))]∧a6 w ls ld zs zd::H=a6 w ls ld zs zd::H) (Tr.reqP ([Z0,(2,AV.bool sure),(3,AV.ptr 0 0 0 0),(8,AV.int .i64 (Int.ofNat 0))]=[Z0,(2,AV.bool sure),(3,AV.ptr 0 0 0 0),(8,AV.int .i64 (Int.ofNat 0))]∧a6 w ls ld zs zd::H=a6 w ls ld zs zd::H) (Tr.ite q2 (Tr.ok ((AV.int .i64 (Int.ofNat 15),none),H)) (Tr.reqP ([Z0,(2,AV.bool sure),(3,AV.ptr 0 0 0 0),(10,AV.int .i64 (Int.ofNat 1))]=[Z0,(2,AV.bool sure),(3,AV.ptr 0 0 0 0),(10,AV.int .i64 (Int.ofNat 1))]∧a6 w ls ld zs zd::H=a6 w ls ld zs zd::H) (Tr.ite q3 (Tr.ok ((AV.int .i64 (Int.ofNat 17),none),H)) (Tr.ok ((AV.int .i64 (Int.ofNat 0),some 1),H))))))))))) (1,AV.slcT none (Row.M [aC.arr .i64 z m]) 1 m full):=by kernel_rfl
def nu (ls:Nat) (z:Nat→Int) (j:Nat):Bool:=!bx ls (z j)
def F7 (z:Nat→Int) (i k:Nat):Bool:=decide (z i=z k)
def xR (z:Nat→Int) (i:Nat):Bool:=bD (F7 z i) i
def zg (hl:Int→Int→Bool) (z:Nat→Int) (j:Nat):Bool:=!hl (z j) (z (j+1))
def xQ (w:Int) (ls ld:Nat) (zs zd:Nat→Int) (hl:Int→Int→Bool) (m:Nat) (z:Nat→Int):Int :=
 if bN w ls ld zs zd≠0 then bN w ls ld zs zd
 else if m<2∨12<m then 6
 else if bD (nu ls z) m=true then 2
 else if bD (xR z) m=true then 15
 else if bD (zg hl z) (m-1)=true then 17 else 0
section
variable (n:Nat) (w:Int) (ls ld m:Nat) (zs zd z:Nat→Int) (H:ae) (sure full:Bool)
theorem IV:∀ b,(0,b) ∈ av (aL Try.f33)→b=.loop (part Try.f33 [1,1,1,0,1,0,0]):=by
 have:((av (aL Try.f33)).filter fun x=>Nat.beq x.1 0)=[(0,.loop (part Try.f33 [1,1,1,0,1,0,0]))]:=by kernel_rfl
 intro b hb
 have hm:(0,b) ∈ ((av (aL Try.f33)).filter fun x=>Nat.beq x.1 0):=List.mem_filter.2 ⟨hb,rfl⟩
 rw[this] at hm;simpa using hm
theorem LG:∀ b,(2,b) ∈ av (aL Try.f33)→b=.loop (part Try.f33 [1,1,1,1,0,1,0,0]):=by
 have:((av (aL Try.f33)).filter fun x=>Nat.beq x.1 2)=[(2,.loop (part Try.f33 [1,1,1,1,0,1,0,0]))]:=by kernel_rfl
 intro b hb
 have hm:(2,b) ∈ ((av (aL Try.f33)).filter fun x=>Nat.beq x.1 2):=List.mem_filter.2 ⟨hb,rfl⟩
 rw[this] at hm;simpa using hm
theorem LI:∀ b,(6,b) ∈ av (aL Try.f33)→b=.loop (part Try.f33 [1,1,1,1,1,0,1,0,0]):=by
 have:((av (aL Try.f33)).filter fun x=>Nat.beq x.1 6)=[(6,.loop (part Try.f33 [1,1,1,1,1,0,1,0,0]))]:=by kernel_rfl
 intro b hb
 have hm:(6,b) ∈ ((av (aL Try.f33)).filter fun x=>Nat.beq x.1 6):=List.mem_filter.2 ⟨hb,rfl⟩
 rw[this] at hm;simpa using hm
theorem LH:∀ b,(4,b) ∈ av (part Try.f33 [1,1,1,1,0,1,0,0])→b=.loop (part Try.f33 [1,1,1,1,0,1,0,0,1,0,0,1,0,0]):=by
 have:((av (part Try.f33 [1,1,1,1,0,1,0,0])).filter fun x=>Nat.beq x.1 4)=[(4,.loop (part Try.f33 [1,1,1,1,0,1,0,0,1,0,0,1,0,0]))]:=by kernel_rfl
 intro b hb
 have hm:(4,b) ∈ ((av (part Try.f33 [1,1,1,1,0,1,0,0])).filter fun x=>Nat.beq x.1 4):=List.mem_filter.2 ⟨hb,rfl⟩
 rw[this] at hm;simpa using hm
theorem Gh:(il (b7 aG 87 (Du (aa w ls zs ld zd) (bx ls))) (n+8) 0).Ok (cd (n+8)):=by
 refine bQ _ (n+8) 0 (fun k=>bI (bB _) (fun args p v hg hp H=>?_))
 unfold Du at hg
 split at hg
 · simp only[nP] at hg
   obtain ⟨rfl,rfl⟩:=hg
   subst hp
   rw[show n+8+k=n+5+k+3 by omega]
   exact Md _ w ls ld zs zd H _
 · cases hg
theorem Gg (h:bN w ls ld zs zd=0):(il (b7 aG 82 (El (aa w ls zs ld zd) sure (fun p q=>bx ls p=true∧bx ls q=true) (dx w ld zs zd sure))) (n+8) 0).Ok (cd (n+8)):=by
 refine bQ _ (n+8) 0 (fun k=>bI (bB _) (fun args p v hg hp H=>?_))
 unfold El at hg
 split at hg
 · simp only[nP] at hg
   obtain ⟨rfl,rfl⟩:=hg
   obtain ⟨rfl,hp,rfl⟩:=hp
   rw[show n+8+k=n+2+k+6 by omega]
   exact L9 _ w ls ld zs zd H _ _ _ (pc h hp.1 hp.2)
 · cases hg
theorem Nx (hm:m≤1000):exec (bF (n+8) 33 76) (.block 0 (.loop (part Try.f33 [1,1,1,0,1,0,0]))) (dP full 7 m z sure 0) (a6 w ls ld zs zd::H)=some (cond (bD (nu ls z) m) (.ret,[(6,.int .i64 2)],a6 w ls ld zs zd::H) (.normal,dP full 7 m z sure (Int.ofNat m)++[(27,.bool false)],a6 w ls ld zs zd::H)):=by
 refine gV (n:=n+8) (f:=33) (nt:=76) (c:=part Try.f33 [1,1,1,0,1,0,0]) 0 (fun j=>dP full 7 m z sure (j:Int)) (fun _=>a6 w ls ld zs zd::H) m (nu ls z) (fun _=>([(6,.int .i64 2)],a6 w ls ld zs zd::H)) (dP full 7 m z sure (Int.ofNat m)++[(27,.bool false)],a6 w ls ld zs zd::H) (by omega) (fun j hj=>?_) ?_
 · have ej:ay .i64 (j:Int) (Int.ofNat 1)=((j+1:Nat):Int):=by rw[aR,show Int.ofNat 1=1 from rfl];exact bX (by omega) (by omega)
   refine bz (KL n w ls ld m zs zd z H (j:Int) sure (bx ls) full) (Gh n w ls ld zs zd) (ah _ _) (ai _ _) ?_
   have hs:nu ls z j=!bx ls (z j):=rfl
   generalize bx ls=pl at *
   repeat' first | (refine Tr.an (fun hc=>?_) (fun hc=>?_)<;>(try simp (disch:=omega) only[nV,nW,Nat.mul_one] at hc)<;>try omega) | (refine Tr.ao ?_ ?_;· (try simp (disch:=omega) only[nV,nW,Nat.mul_one]);try omega) | (refine Tr.ak ?_ ?_;· first | exact trivial | rfl | exact ⟨rfl,rfl⟩ | exact ⟨rfl,rfl,rfl⟩ | (simp (disch:=omega) only[nV,nW,Nat.mul_one];done) | ((try simp (disch:=omega) only[nV,nW,Nat.mul_one]);omega)) | fail
   all_goals refine Tr.aq ?_
   all_goals first
    | (rw[if_pos (by rw[hs];simp_all;done)];rfl)
    | (rw[if_neg (by rw[hs];simp_all;done)];exact ⟨rfl,by rw[ej];rfl⟩)
    | fail
 · obtain ⟨x,h1,rfl⟩:=bz (Q:=fun x=>x=(.exit 0,dP full 7 m z sure (Int.ofNat m)++[(27,.bool false)],a6 w ls ld zs zd::H)) (KL n w ls ld m zs zd z H (Int.ofNat m) sure (bx ls) full) (Gh n w ls ld zs zd) (ah _ _) (ai _ _) (by
    repeat' first | (refine Tr.an (fun hc=>?_) (fun hc=>?_)<;>(try simp (disch:=omega) only[nV,nW] at hc)<;>try omega) | (refine Tr.ao ?_ ?_;· (try simp (disch:=omega) only[nV,nW]);try omega) | (refine Tr.ak ?_ ?_;· first | exact trivial | rfl | exact ⟨rfl,rfl⟩ | exact ⟨rfl,rfl,rfl⟩ | (simp (disch:=omega) only[nV,nW];done) | ((try simp (disch:=omega) only[nV,nW]);omega)) | fail
    exact Tr.aq rfl)
   exact h1
theorem Nz (hm:m≤1000) (i:Nat) (hi:i<m):exec (bF (n+8) 33 76) (.block 4 (.loop (part Try.f33 [1,1,1,1,0,1,0,0,1,0,0,1,0,0]))) (pG full m z sure i 0) (a6 w ls ld zs zd::H)=some (cond (xR z i) (.ret,[(6,.int .i64 15)],a6 w ls ld zs zd::H) (.normal,pG full m z sure i i++[(45,.bool false)],a6 w ls ld zs zd::H)):=by
 refine gV (n:=n+8) (f:=33) (nt:=76) (c:=part Try.f33 [1,1,1,1,0,1,0,0,1,0,0,1,0,0]) 4 (fun k=>pG full m z sure i (k:Int)) (fun _=>a6 w ls ld zs zd::H) i (F7 z i) (fun _=>([(6,.int .i64 15)],a6 w ls ld zs zd::H)) (pG full m z sure i i++[(45,.bool false)],a6 w ls ld zs zd::H) (by omega) (fun k hk=>?_) ?_
 · have ej:ay .i64 (k:Int) (Int.ofNat 1)=((k+1:Nat):Int):=by rw[aR,show Int.ofNat 1=1 from rfl];exact bX (by omega) (by omega)
   refine bz (KN n w ls ld m zs zd z H (i:Int) (k:Int) sure full) (bU (n+8) 0) (ah _ _) (ai _ _) ?_
   have hs:F7 z i k=decide (z i=z k):=rfl
   repeat' first | (refine Tr.an (fun hc=>?_) (fun hc=>?_)<;>(try simp (disch:=omega) only[nV,nW,Nat.mul_one] at hc)<;>try omega) | (refine Tr.ao ?_ ?_;· (try simp (disch:=omega) only[nV,nW,Nat.mul_one]);try omega) | (refine Tr.ak ?_ ?_;· first | exact trivial | rfl | exact ⟨rfl,rfl⟩ | exact ⟨rfl,rfl,rfl⟩ | (simp (disch:=omega) only[nV,nW,Nat.mul_one];done) | ((try simp (disch:=omega) only[nV,nW,Nat.mul_one]);omega)) | fail
   all_goals refine Tr.aq ?_
   all_goals first
    | (rw[if_pos (by rw[hs];simp_all;done)];rfl)
    | (rw[if_neg (by rw[hs];simp_all;done)];exact ⟨rfl,by rw[ej];rfl⟩)
    | fail
 · obtain ⟨x,h1,rfl⟩:=bz (Q:=fun x=>x=(.exit 4,pG full m z sure i i++[(45,.bool false)],a6 w ls ld zs zd::H)) (KN n w ls ld m zs zd z H (i:Int) (i:Int) sure full) (bU (n+8) 0) (ah _ _) (ai _ _) (by
    repeat' first | (refine Tr.an (fun hc=>?_) (fun hc=>?_)<;>(try simp (disch:=omega) only[nV,nW] at hc)<;>try omega) | (refine Tr.ao ?_ ?_;· (try simp (disch:=omega) only[nV,nW]);try omega) | (refine Tr.ak ?_ ?_;· first | exact trivial | rfl | exact ⟨rfl,rfl⟩ | exact ⟨rfl,rfl,rfl⟩ | (simp (disch:=omega) only[nV,nW];done) | ((try simp (disch:=omega) only[nV,nW]);omega)) | fail
    exact Tr.aq rfl)
   exact h1
theorem Ny (hm:m≤1000):exec (bF (n+8) 33 76) (.block 2 (.loop (part Try.f33 [1,1,1,1,0,1,0,0]))) (dP full 8 m z sure 0) (a6 w ls ld zs zd::H)=some (cond (bD (xR z) m) (.ret,[(6,.int .i64 15)],a6 w ls ld zs zd::H) (.normal,dP full 8 m z sure (Int.ofNat m)++[(40,.bool false)],a6 w ls ld zs zd::H)):=by
 refine gV (n:=n+8) (f:=33) (nt:=76) (c:=part Try.f33 [1,1,1,1,0,1,0,0]) 2 (fun j=>dP full 8 m z sure (j:Int)) (fun _=>a6 w ls ld zs zd::H) m (xR z) (fun _=>([(6,.int .i64 15)],a6 w ls ld zs zd::H)) (dP full 8 m z sure (Int.ofNat m)++[(40,.bool false)],a6 w ls ld zs zd::H) (by omega) (fun j hj=>?_) ?_
 · have ej:ay .i64 (j:Int) (Int.ofNat 1)=((j+1:Nat):Int):=by rw[aR,show Int.ofNat 1=1 from rfl];exact bX (by omega) (by omega)
   have lk:=Nz n w ls ld m zs zd z H sure full hm j hj
   refine bz (N7 n w ls ld m zs zd z H (j:Int) sure (xR z j) full) (bU (n+8) 0) (bf (ah _ _) LH (fun x hx=>?_)) (ai _ _) ?_
   · refine Eq.trans lk ?_
     rcases Tr.bH hx with ⟨hc,hx⟩ | ⟨hc,hx⟩
     · rw[← Tr.ab hx,hc];rfl
     · rw[← Tr.ab hx,hc];simp only[dg.st,aw];rfl
   · repeat' first | (refine Tr.an (fun hc=>?_) (fun hc=>?_)<;>(try simp (disch:=omega) only[nV,nW] at hc)<;>try omega) | (refine Tr.ao ?_ ?_;· (try simp (disch:=omega) only[nV,nW]);try omega) | (refine Tr.ak ?_ ?_;· first | exact trivial | rfl | exact ⟨rfl,rfl⟩ | exact ⟨rfl,rfl,rfl⟩ | (simp (disch:=omega) only[nV,nW];done) | ((try simp (disch:=omega) only[nV,nW]);omega)) | fail
     all_goals refine Tr.aq ?_
     · rw[if_pos hc];rfl
     · rw[if_neg (by rw[hc];simp)];exact ⟨rfl,by rw[ej];rfl⟩
 · obtain ⟨x,h1,rfl⟩:=bz (Q:=fun x=>x=(.exit 2,dP full 8 m z sure (Int.ofNat m)++[(40,.bool false)],a6 w ls ld zs zd::H)) (KM n w ls ld m zs zd z H (Int.ofNat m) sure full) (bU (n+8) 0) (cN (ah _ _) 4) (ai _ _) (by
    repeat' first | (refine Tr.an (fun hc=>?_) (fun hc=>?_)<;>(try simp (disch:=omega) only[nV,nW] at hc)<;>try omega) | (refine Tr.ao ?_ ?_;· (try simp (disch:=omega) only[nV,nW]);try omega) | (refine Tr.ak ?_ ?_;· first | exact trivial | rfl | exact ⟨rfl,rfl⟩ | exact ⟨rfl,rfl,rfl⟩ | (simp (disch:=omega) only[nV,nW];done) | ((try simp (disch:=omega) only[nV,nW]);omega)) | fail
    exact Tr.aq rfl)
   exact h1
theorem NA (h:bN w ls ld zs zd=0) (hm:2≤m∧m≤1000) (hz:∀ i,i<m→bx ls (z i)=true):exec (bF (n+8) 33 76) (.block 6 (.loop (part Try.f33 [1,1,1,1,1,0,1,0,0]))) (dP full 10 m z sure 1) (a6 w ls ld zs zd::H)=some (cond (bD (zg (dx w ld zs zd sure) z) (m-1)) (.ret,[(6,.int .i64 17)],a6 w ls ld zs zd::H) (.normal,dP full 10 m z sure (Int.ofNat m)++[(60,.bool false)],a6 w ls ld zs zd::H)):=by
 have:=gV (n:=n+8) (f:=33) (nt:=76) (c:=part Try.f33 [1,1,1,1,1,0,1,0,0]) 6 (fun j=>dP full 10 m z sure ((j:Int)+1)) (fun _=>a6 w ls ld zs zd::H) (m-1) (zg (dx w ld zs zd sure) z) (fun _=>([(6,.int .i64 17)],a6 w ls ld zs zd::H)) (dP full 10 m z sure (Int.ofNat m)++[(60,.bool false)],a6 w ls ld zs zd::H) (by omega) (fun j hj=>?_) ?_
 · exact this
 · have ej:ay .i64 ((j:Int)+1) (Int.ofNat 1)=((j+1:Nat):Int)+1:=by rw[aR,show Int.ofNat 1=1 from rfl];exact bX (by omega) (by omega)
   have es:az .i64 ((j:Int)+1) (Int.ofNat 1)=(j:Int):=by rw[aQ,show Int.ofNat 1=1 from rfl,bX (by omega) (by omega)];omega
   have et:((j:Int)+1).toNat=j+1:=by omega
   have h1:=hz j (by omega)
   have h2:=hz (j+1) (by omega)
   refine bz (KO n w ls ld m zs zd z H ((j:Int)+1) sure (fun p q=>bx ls p=true∧bx ls q=true) (dx w ld zs zd sure) full) (Gg n w ls ld zs zd sure h) (ah _ _) (ai _ _) ?_
   have hs:zg (dx w ld zs zd sure) z j=!dx w ld zs zd sure (z j) (z (j+1)):=rfl
   rw[es]
   repeat' first | (refine Tr.an (fun hc=>?_) (fun hc=>?_)<;>(try simp (disch:=omega) only[nV,nW,Nat.mul_one,et,h1,h2,and_true,and_self] at hc)<;>try omega) | (refine Tr.ao ?_ ?_;· (try simp (disch:=omega) only[nV,nW,Nat.mul_one,et,h1,h2,and_true,and_self]);try omega) | (refine Tr.ak ?_ ?_;· first | exact trivial | rfl | exact ⟨rfl,rfl⟩ | exact ⟨rfl,rfl,rfl⟩ | (simp (disch:=omega) only[nV,nW,Nat.mul_one,et,h1,h2,and_true,and_self];done) | ((try simp (disch:=omega) only[nV,nW,Nat.mul_one,et,h1,h2,and_true,and_self]);omega)) | fail
   all_goals refine Tr.aq ?_
   all_goals first
    | (rw[if_pos (by rw[hs];simp_all;done)];rfl)
    | (rw[if_neg (by rw[hs];simp_all;done)];exact ⟨rfl,by rw[ej];rfl⟩)
    | fail
 · have e:((m-1:Nat):Int)+1=Int.ofNat m:=by rw[da];omega
   rw[e]
   obtain ⟨x,h1,rfl⟩:=bz (Q:=fun x=>x=(.exit 6,dP full 10 m z sure (Int.ofNat m)++[(60,.bool false)],a6 w ls ld zs zd::H)) (KO n w ls ld m zs zd z H (Int.ofNat m) sure (fun p q=>bx ls p=true∧bx ls q=true) (dx w ld zs zd sure) full) (Gg n w ls ld zs zd sure h) (ah _ _) (ai _ _) (by
    repeat' first | (refine Tr.an (fun hc=>?_) (fun hc=>?_)<;>(try simp (disch:=omega) only[nV,nW] at hc)<;>try omega) | (refine Tr.ao ?_ ?_;· (try simp (disch:=omega) only[nV,nW]);try omega) | (refine Tr.ak ?_ ?_;· first | exact trivial | rfl | exact ⟨rfl,rfl⟩ | exact ⟨rfl,rfl,rfl⟩ | (simp (disch:=omega) only[nV,nW];done) | ((try simp (disch:=omega) only[nV,nW]);omega)) | fail
    exact Tr.aq rfl)
   exact h1
theorem PK:cd (n+9) (.fn 33) [aa w ls zs ld zd,bn m z full,.bool sure] H=some (.int .i64 (xQ w ls ld zs zd (dx w ld zs zd sure) m z),H):=by
 have ct:∀ k,(b7 aG 20 (vB (aa w ls zs ld zd) (bN w ls ld zs zd))).Ok (cd (n+8+k)):=fun k=>by
  have:=D6 (n+6) w ls ld zs zd k _ (bB (cd (n+6+2+k)))
  rwa [show n+6+2+k=n+8+k by omega] at this
 by_cases hx:bN w ls ld zs zd≠0∨(m<2∨12<m)
 · refine bp (n:=n+8) Try.func33 rfl rfl rfl (OF n w ls ld m zs zd z H (bN w ls ld zs zd) sure full) (bQ _ (n+8) 0 ct) (cN (ah _ _) 0) (ai _ _) ?_
   unfold xQ
   repeat' first | (refine Tr.an (fun hc=>?_) (fun hc=>?_)<;>(try simp (disch:=omega) only[nV,nW] at hc)<;>try omega) | (refine Tr.ao ?_ ?_;· (try simp (disch:=omega) only[nV,nW]);try omega) | (refine Tr.ak ?_ ?_;· first | exact trivial | rfl | exact ⟨rfl,rfl⟩ | exact ⟨rfl,rfl,rfl⟩ | (simp (disch:=omega) only[nV,nW];done) | ((try simp (disch:=omega) only[nV,nW]);omega)) | fail
   all_goals refine Tr.aq ⟨?_,rfl⟩
   all_goals (split<;>first | rfl | (exfalso;omega) | (split<;>first | rfl | (exfalso;omega)))
 · have h:bN w ls ld zs zd=0:=by omega
   have hm:2≤m∧m≤12:=by omega
   have la:=Nx n w ls ld m zs zd z H sure full (by omega)
   unfold xQ
   rw[if_neg (fun x=>x h),if_neg (by omega)]
   cases hq:bD (nu ls z) m with
   | true =>
     rw[hq] at la
     refine bp (n:=n+8) Try.func33 rfl rfl rfl (OD n w ls ld m zs zd z H (bN w ls ld zs zd) sure full) (bQ _ (n+8) 0 ct) (bf (ah _ _) IV (fun x hx=>by rw[← Tr.ab hx];exact la)) (ai _ _) ?_
     rw[h,if_pos rfl]
     repeat' first | (refine Tr.an (fun hc=>?_) (fun hc=>?_)<;>(try simp (disch:=omega) only[nV,nW] at hc)<;>try omega) | (refine Tr.ao ?_ ?_;· (try simp (disch:=omega) only[nV,nW]);try omega) | (refine Tr.ak ?_ ?_;· first | exact trivial | rfl | exact ⟨rfl,rfl⟩ | exact ⟨rfl,rfl,rfl⟩ | (simp (disch:=omega) only[nV,nW];done) | ((try simp (disch:=omega) only[nV,nW]);omega)) | fail
     exact Tr.aq ⟨rfl,rfl⟩
   | false =>
     rw[hq] at la
     have hz:∀ i,i<m→bx ls (z i)=true:=fun i hi=>by
      cases hp:bx ls (z i) with
      | true=>rfl
      | false =>
        have:=(bV (nu ls z) m).2 ⟨i,hi,by unfold nu;rw[hp];rfl⟩
        rw[this] at hq;cases hq
     have lb:=Ny n w ls ld m zs zd z H sure full (by omega)
     have ld':=NA n w ls ld m zs zd z H sure full h ⟨by omega,by omega⟩ hz
     refine bp (n:=n+8) Try.func33 rfl rfl rfl (OE n w ls ld m zs zd z H (bN w ls ld zs zd) sure (bD (xR z) m) (bD (zg (dx w ld zs zd sure) z) (m-1)) full) (bQ _ (n+8) 0 ct) (bf (bf (bf (ah _ _) LI (fun x hx=>?_)) LG (fun x hx=>?_)) IV (fun x hx=>?_)) (ai _ _) ?_
     · refine Eq.trans ld' ?_
       rcases Tr.bH hx with ⟨hc,hx⟩ | ⟨hc,hx⟩
       · rw[← Tr.ab hx,hc];rfl
       · rw[← Tr.ab hx,hc];simp only[dg.st,aw];rfl
     · refine Eq.trans lb ?_
       rcases Tr.bH hx with ⟨hc,hx⟩ | ⟨hc,hx⟩
       · rw[← Tr.ab hx,hc];rfl
       · rw[← Tr.ab hx,hc];simp only[dg.st,aw];rfl
     · rw[← Tr.ab hx];simp only[dg.st,aw];exact la
     · rw[h,if_neg (by simp)]
       repeat' first | (refine Tr.an (fun hc=>?_) (fun hc=>?_)<;>(try simp (disch:=omega) only[nV,nW] at hc)<;>try omega) | (refine Tr.ao ?_ ?_;· (try simp (disch:=omega) only[nV,nW]);try omega) | (refine Tr.ak ?_ ?_;· first | exact trivial | rfl | exact ⟨rfl,rfl⟩ | exact ⟨rfl,rfl,rfl⟩ | (simp (disch:=omega) only[nV,nW];done) | ((try simp (disch:=omega) only[nV,nW]);omega)) | fail
       all_goals refine Tr.aq ⟨?_,rfl⟩
       all_goals first
        | (simp_all;done)
        | (simp_all;rfl)
        | fail
end
end Go.Eng
end
section
namespace Go.Eng
open Go.Proofs
set_option linter.unusedVariables false
set_option linter.unusedSimpArgs false
set_option maxRecDepth 100000
def Lp (T:AV) (P Q:Int) (sure:Bool) (A:AV):List AV→Option (Prop×AV)
 | [t,.int .i64 p,.int .i64 q,.bool s]=>some (t=T∧p=P∧q=Q∧s=sure,A)
 | _=>none
theorem Ox (n:Nat) (w:Int) (ls ld:Nat) (zs zd sz kd:Nat→Int) (H:ae) (p q:Int) (sure:Bool):aW Try.prog (cd (n+15)) 100000 29 Try.f29 (Kt.kt 29) (il (b7 (b7 aG 68 (AT (aa w ls zs ld zd) p q (gu w ls ld zs zd sz kd) 0)) 80 (Lp (gu w ls ld zs zd sz kd) p q sure .nils)) (n+15) 0) aJ aK [(aa w ls zs ld zd,none),(.int .i64 p,none),(.int .i64 q,none),(.bool sure,none)] H =
 (fun (Z0:Row)=>Tr.reqP (aa w ls zs ld zd=aa w ls zs ld zd∧p=p∧q=q) (Tr.ite (aD (aF (Int.ofNat 0) (Int.ofNat 0))) (Tr.ok ((AV.tup [AV.nils,AV.int .i64 (Int.ofNat 0)],none),H)) (Tr.reqP (AV.ptrT (some 0) Z0 0=AV.ptrT (some 0) Z0 0∧p=p∧q=q∧sure=sure) (Tr.ok ((AV.tup [AV.nils,AV.int .i64 (Int.ofNat 5)],none),H))))) (Row.M [aC.one (AV.int .i64 w),aC.one (aU 2 ls zs),aC.one (aU 3 ld zd),aC.one (AV.slcT none (Row.M [aC.arr .i64 sz (aI ls 2)]) 2 ls true),aC.arr .i64 kd 144]):=by kernel_rfl
theorem Oy (n:Nat) (w:Int) (ls ld m:Nat) (zs zd sz kd z:Nat→Int) (H:ae) (p q:Int) (sure:Bool):aW Try.prog (cd (n+15)) 100000 29 Try.f29 (Kt.kt 29) (il (b7 (b7 aG 68 (AT (aa w ls zs ld zd) p q (gu w ls ld zs zd sz kd) 0)) 80 (Lp (gu w ls ld zs zd sz kd) p q sure (bn m z false))) (n+15) 0) aJ aK [(aa w ls zs ld zd,none),(.int .i64 p,none),(.int .i64 q,none),(.bool sure,none)] H =
 (fun (Z0:Row)=>Tr.reqP (aa w ls zs ld zd=aa w ls zs ld zd∧p=p∧q=q) (Tr.ite (aD (aF (Int.ofNat 0) (Int.ofNat 0))) (Tr.ok ((AV.tup [AV.nils,AV.int .i64 (Int.ofNat 0)],none),H)) (Tr.reqP (AV.ptrT (some 0) Z0 0=AV.ptrT (some 0) Z0 0∧p=p∧q=q∧sure=sure) (Tr.ite (aF (Int.ofNat m) (Int.ofNat 0)) (Tr.ok ((AV.tup [AV.nils,AV.int .i64 (Int.ofNat 5)],none),H)) (Tr.req (Gj (Int.ofNat m) (Int.ofNat m) 8) (Tr.req (cB (uS m (fi (Int.ofNat m))) m) (Tr.req (cB (au 0 (uS m (fi (Int.ofNat m)))) m) (Tr.req (kO 0 (uS m (fi (Int.ofNat m))) 0 (fi (Int.ofNat m))) (Tr.req (dH 0 0) (Tr.req (kO 0 (fi (Int.ofNat m)) 0 (fi (Int.ofNat m))) (Tr.ok ((AV.tup [AV.slcT none (Row.M [aC.arr .i64 (nv (uy (fun x=>Int.ofNat 0) 0 z (uS m (fi (Int.ofNat m)))) 0) (fi (Int.ofNat m))]) 1 (fi (Int.ofNat m)) (dH (fi (Int.ofNat m)) (fi (Int.ofNat m))),AV.int .i64 (Int.ofNat 0)],none),H)))))))))))) (Row.M [aC.one (AV.int .i64 w),aC.one (aU 2 ls zs),aC.one (aU 3 ld zd),aC.one (AV.slcT none (Row.M [aC.arr .i64 sz (aI ls 2)]) 2 ls true),aC.arr .i64 kd 144]):=by kernel_rfl
section
variable (n:Nat) (w:Int) (ls ld:Nat) (zs zd:Nat→Int) (H:ae) (p q:Int) (sure:Bool)
theorem Ji (k:Nat) (t e A:AV) (ht:t=z7 w ls ld zs zd p q) (e':Int) (he:e'=ij w ls ld zs zd p q) (T:AV) (h:∀ k H,cd (n+15+k) (.fn 80) [T,.int .i64 p,.int .i64 q,.bool sure] H=some (A,H)):(b7 (b7 aG 68 (AT (aa w ls zs ld zd) p q t e')) 80 (Lp T p q sure A)).Ok (cd (n+15+k)):=by
 have:=qY (n+1) w ls ld zs zd p q k t e' ht he
 rw[show n+1+14+k=n+15+k by omega] at this
 refine bI this (fun args x v hg hp H=>?_)
 unfold Lp at hg
 split at hg
 · simp only[nP] at hg
   obtain ⟨rfl,rfl⟩:=hg
   obtain ⟨rfl,rfl,rfl,rfl⟩:=hp
   exact h _ H
 · cases hg
theorem LW (he:ij w ls ld zs zd p q=0) (h:∀ k H,cd (n+15+k) (.fn 80) [gu w ls ld zs zd (ft zd ld) (dR w ls ld zs zd),.int .i64 p,.int .i64 q,.bool sure] H=some (.nils,H)):cd (n+16) (.fn 29) [aa w ls zs ld zd,.int .i64 p,.int .i64 q,.bool sure] H=some (.tup [.nils,.int .i64 5],H):=by
 refine bp (n:=n+15) Try.func29 rfl rfl rfl (Ox n w ls ld zs zd (ft zd ld) (dR w ls ld zs zd) H p q sure) (bQ _ (n+15) 0 (fun k=>Ji n w ls ld zs zd p q sure k _ .nilp _ (uZ w ls ld zs zd p q he) _ he.symm _ h)) (ah _ _) (ai _ _) ?_
 repeat' first | (refine Tr.an (fun hc=>?_) (fun hc=>?_)<;>(try simp (disch:=omega) only[nV,nW,and_self,and_true,true_and] at hc)<;>try omega) | (refine Tr.ao ?_ ?_;· (try simp (disch:=omega) only[nV,nW,and_self,and_true,true_and]);try omega) | (refine Tr.ak ?_ ?_;· first | exact trivial | rfl | exact ⟨rfl,rfl⟩ | exact ⟨rfl,rfl,rfl⟩ | (simp (disch:=omega) only[nV,nW,and_self,and_true,true_and];done) | ((try simp (disch:=omega) only[nV,nW,and_self,and_true,true_and]);omega)) | fail
 exact Tr.aq ⟨rfl,rfl⟩
theorem LX (he:ij w ls ld zs zd p q=0) (m:Nat) (hm:1≤m∧m≤1000) (z:Nat→Int) (h:∀ k H,cd (k+15) (.fn 80) [gu w ls ld zs zd (ft zd ld) (dR w ls ld zs zd),.int .i64 p,.int .i64 q,.bool sure] H=some (bn m z false,H)):∃ y,(∀ j,j<m→y j=z j)∧∀ n H,cd (n+16) (.fn 29) [aa w ls zs ld zd,.int .i64 p,.int .i64 q,.bool sure] H=some (.tup [bn m y true,.int .i64 0],H):=by
 have et:fi (Int.ofNat m)=m:=by rw[ir];rfl
 have em:uS m m=m:=by rw[uT];omega
 have en:dH m m=true:=by rw[cu];simp
 refine ⟨uy (fun x=>Int.ofNat 0) 0 z m,fun j hj=>?_,fun n H=>?_⟩
 · rw[zc];unfold vR;simp;omega
 · refine bp (n:=n+15) Try.func29 rfl rfl rfl (Oy n w ls ld m zs zd (ft zd ld) (dR w ls ld zs zd) z H p q sure) (bQ _ (n+15) 0 (fun k=>Ji n w ls ld zs zd p q sure k _ .nilp _ (uZ w ls ld zs zd p q he) _ he.symm _ (fun k' H=>by rw[show n+15+k'=n+k'+15 by omega];exact h _ H))) (ah _ _) (ai _ _) ?_
   rw[et,em,en,hJ]
   repeat' first | (refine Tr.an (fun hc=>?_) (fun hc=>?_)<;>(try simp (disch:=omega) only[nV,nW,and_self,and_true,true_and] at hc)<;>try omega) | (refine Tr.ao ?_ ?_;· (try simp (disch:=omega) only[nV,nW,and_self,and_true,true_and]);try omega) | (refine Tr.ak ?_ ?_;· first | exact trivial | rfl | exact ⟨rfl,rfl⟩ | exact ⟨rfl,rfl,rfl⟩ | (simp (disch:=omega) only[nV,nW,and_self,and_true,true_and];done) | ((try simp (disch:=omega) only[nV,nW,and_self,and_true,true_and]);omega)) | fail
   exact Tr.aq ⟨rfl,rfl⟩
end
end Go.Eng
end
section
namespace Go.Eng
open Go.Proofs
set_option linter.unusedVariables false
set_option linter.unusedSimpArgs false
set_option maxRecDepth 100000
def rC (z:Nat→Int) (hl:Int→Int→Bool) (a:Int) (j:Nat):Bool:=decide ((j:Int)-2≠a) && (decide (z j=z (a+2).toNat-1) && (decide (0<z j) && hl a ((j:Int)-2)))
def rX (z:Nat→Int) (hl:Int→Int→Bool) (a:Int):Nat→Int
 | 0=>-3
 | j+1=>if rX z hl a j=-3∧rC z hl a j=true then (j:Int)-2 else rX z hl a j
def vF (z:Nat→Int) (hl:Int→Int→Bool) (ls:Nat) (p:Int):Nat→Int
 | 0=>p
 | k+1=>rX z hl (vF z hl ls p k) (ls+2)
section
variable (n:Nat) (w:Int) (ls ld:Nat) (zs zd z y:Nat→Int) (H:ae) (p q a:Int) (v m:Nat) (sure:Bool)
end
end Go.Eng
end
