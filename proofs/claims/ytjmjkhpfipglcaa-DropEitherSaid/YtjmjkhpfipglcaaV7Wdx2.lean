/- Drop: way: from place to place. -/
import Derived.Test.YtjmjkhpfipglcaaV7Kxx2
import Derived.Test.YtjmjkhpfipglcaaV7Kq
section
namespace Go.Eng
open Go.Proofs
set_option linter.unusedVariables false
set_option linter.unusedSimpArgs false
set_option maxRecDepth 100000
noncomputable def n8 (o:AV) (q a:Int):aO:=[(2,.int .i64 q),(4,.ptr 0 0 0 0),(7,.ptr 0 1 0 0),(9,.ptr 0 3 0 0),(18,.ptr 0 8 0 0),(20,o),(21,.int .i64 a)]
noncomputable def F8 (q a:Int):a8:=[(2,.int .i64 q,none),(4,.ptr 0 0 0 0,none),(7,.ptr 0 1 0 0,none),(9,.ptr 0 3 0 0,none),(18,.ptr 0 8 0 0,none),(20,.slc 0 9 0 0 1 1 (some 1),some 1),(21,.int .i64 a,none)]
noncomputable def Gr (w:Int) (ls ld:Nat) (zs zd sz kd:Nat→Int) (a:Int) (sure:Bool):List AV:=[.fn (.func 110) [] (gv 1 w ls ld zs zd sz kd a sure),.fn (.func 105) [] [.ptr 0 3 0 0,.ptr 0 8 0 0]]
noncomputable def Gl (p:Int):List (Nat×aj):=[(0,.row (.I .i64 [p]))]
noncomputable def Ae (p:Int) (z:Nat→Int) (m:Nat):List (Nat×aj):=[(0,.row (.I .i64 [p])),(0,.row (.M [.arr .i64 z m]))]
theorem Of (n:Nat) (w:Int) (ls ld:Nat) (zs zd sz kd:Nat→Int) (H:ae) (p q a v:Int) (sure:Bool) (hS:Int→Bool) (gS:Int→Int) (cS:Nat) (hW:Int→Bool) (gW:Int→Int) (cW:Nat) (s left left2:Int):aH (bF (n+14) 80 113) (il (sJ aG 103 (Gr w ls ld zs zd sz kd a sure) (yt w ls ld zs zd sz kd sure hS gS cS hW gW cW s left2 (Gl p)::H) (.ok (.int .i64 v,yt w ls ld zs zd sz kd sure hS gS cS hW gW cW s left2 (Gl p)::H))) (n+13) 1) aJ aK (part Try.f80 [1,0,1,1,1,1,1,1,1,0,1,0,0]) (F8 q a) (yt w ls ld zs zd sz kd sure hS gS cS hW gW cW s left (Gl p)::H) =
 (fun (Z0:List AV)=>((fun (Z1:Nat×aj)=>((fun (Z2:Nat×aj)=>((fun (Z3:Nat×aj)=>((fun (Z4:Nat×aj)=>((fun (Z5:Nat×aj)=>Tr.ite (aF a q) (Tr.ok (Ex.exit 6,[(2,AV.int .i64 q,none),(4,AV.ptr 0 0 0 0,none),(7,AV.ptr 0 1 0 0,none),(9,AV.ptr 0 3 0 0,none),(18,AV.ptr 0 8 0 0,none),(20,AV.slc 0 9 0 0 1 1 (some 1),some 1),(21,AV.int .i64 a,none),(94,AV.bool true,some 1)],{ lock:=false,bs:=[Z1,Z3,(0,aj.fmap hS gS cS),Z4,(0,aj.fmap hW gW cW),Z5,Z2,(0,aj.row (Row.I .i64 [s])),(0,aj.row (Row.I .i64 [left])),(0,aj.row (Row.I .i64 [p]))] } :: H)) (Tr.reqP (Z0=Z0∧{ lock:=false,bs:=[Z1,Z3,(0,aj.fmap hS gS cS),Z4,(0,aj.fmap hW gW cW),Z5,Z2,(0,aj.row (Row.I .i64 [s])),(0,aj.row (Row.I .i64 [az .i64 left (Int.ofNat 1)])),(0,aj.row (Row.I .i64 [p]))] } :: H={ lock:=false,bs:=[Z1,Z3,(0,aj.fmap hS gS cS),Z4,(0,aj.fmap hW gW cW),Z5,Z2,(0,aj.row (Row.I .i64 [s])),(0,aj.row (Row.I .i64 [left2])),(0,aj.row (Row.I .i64 [p]))] } :: H) (Tr.req (gx 1 1 8) (Tr.req (cB 1 1) (Tr.ite (bt 1 (au 1 1)) (Tr.req (cB 1 1) (Tr.ok (Ex.normal,[(2,AV.int .i64 q,none),(4,AV.ptr 0 0 0 0,none),(7,AV.ptr 0 1 0 0,none),(9,AV.ptr 0 3 0 0,none),(18,AV.ptr 0 8 0 0,none),(20,AV.slc 0 11 0 0 1 (au 1 1) none,none),(21,AV.int .i64 v,none)],{ lock:=false,bs:=[Z1,Z3,(0,aj.fmap hS gS cS),Z4,(0,aj.fmap hW gW cW),Z5,Z2,(0,aj.row (Row.I .i64 [s])),(0,aj.row (Row.I .i64 [left2])),(0,aj.row (Row.I .i64 [p])),(0,aj.row (Row.I .i64 [v])),(0,aj.row (Row.M [aC.arr .i64 (bE [p,v]) 2]))] } :: H))) Tr.bad))))) (0,aj.row (Row.G [AV.map 0 4])))) (0,aj.row (Row.G [AV.map 0 2])))) (0,aj.row (Row.G [AV.bool sure])))) (0,aj.row (Row.I .i64 [Int.ofNat 0])))) (0,aj.row (Row.G [a9 1 w ls ld zs zd sz kd])))) [AV.fn (Fn.func 110) [] [AV.ptrT (some 0) (Row.G [a9 1 w ls ld zs zd sz kd]) 0,AV.ptrT none (Row.I .i64 [a]) 0,AV.ptrT (some 0) (Row.G [AV.bool sure]) 0],AV.fn (Fn.func 105) [] [AV.ptr 0 3 0 0,AV.ptr 0 8 0 0]]:=by kernel_rfl
theorem Og (n:Nat) (w:Int) (ls ld m:Nat) (zs zd sz kd z:Nat→Int) (H:ae) (p q a v:Int) (sure:Bool) (hS:Int→Bool) (gS:Int→Int) (cS:Nat) (hW:Int→Bool) (gW:Int→Int) (cW:Nat) (s left left2:Int):aH (bF (n+14) 80 113) (il (sJ aG 103 (Gr w ls ld zs zd sz kd a sure) (yt w ls ld zs zd sz kd sure hS gS cS hW gW cW s left2 (Ae p z m)::H) (.ok (.int .i64 v,yt w ls ld zs zd sz kd sure hS gS cS hW gW cW s left2 (Ae p z m)::H))) (n+13) 1) aJ aK (part Try.f80 [1,0,1,1,1,1,1,1,1,0,1,0,0]) (hints (n8 (.slc 0 10 0 0 1 m none) q a)) (yt w ls ld zs zd sz kd sure hS gS cS hW gW cW s left (Ae p z m)::H) =
 (fun (Z0:List AV)=>((fun (Z1:Nat×aj)=>((fun (Z2:Nat×aj)=>((fun (Z3:Nat×aj)=>((fun (Z4:Nat×aj)=>((fun (Z5:Nat×aj)=>((fun (Z6:Nat×aj)=>Tr.ite (aF a q) (Tr.ok (Ex.exit 6,[(2,AV.int .i64 q,none),(4,AV.ptr 0 0 0 0,none),(7,AV.ptr 0 1 0 0,none),(9,AV.ptr 0 3 0 0,none),(18,AV.ptr 0 8 0 0,none),(20,AV.slc 0 10 0 0 1 m none,none),(21,AV.int .i64 a,none),(94,AV.bool true,some 1)],{ lock:=false,bs:=[Z1,Z3,(0,aj.fmap hS gS cS),Z4,(0,aj.fmap hW gW cW),Z5,Z2,(0,aj.row (Row.I .i64 [s])),(0,aj.row (Row.I .i64 [left])),(0,aj.row (Row.I .i64 [p])),Z6] } :: H)) (Tr.reqP (Z0=Z0∧{ lock:=false,bs:=[Z1,Z3,(0,aj.fmap hS gS cS),Z4,(0,aj.fmap hW gW cW),Z5,Z2,(0,aj.row (Row.I .i64 [s])),(0,aj.row (Row.I .i64 [az .i64 left (Int.ofNat 1)])),(0,aj.row (Row.I .i64 [p])),Z6] } :: H={ lock:=false,bs:=[Z1,Z3,(0,aj.fmap hS gS cS),Z4,(0,aj.fmap hW gW cW),Z5,Z2,(0,aj.row (Row.I .i64 [s])),(0,aj.row (Row.I .i64 [left2])),(0,aj.row (Row.I .i64 [p])),Z6] } :: H) (Tr.req (mN (Int.ofNat m) m) (Tr.req (mN (Int.ofNat m) (fi (Int.ofNat m))) (Tr.req (gx (fi (Int.ofNat m)) 1 8) (Tr.req (cB 1 1) (Tr.ite (bt (fi (Int.ofNat m)) (au (fi (Int.ofNat m)) 1)) (Tr.req (cB (fi (Int.ofNat m)) (fi (Int.ofNat m))) (Tr.req (kO 0 (fi (Int.ofNat m)) 0 m) (Tr.ok (Ex.normal,[(2,AV.int .i64 q,none),(4,AV.ptr 0 0 0 0,none),(7,AV.ptr 0 1 0 0,none),(9,AV.ptr 0 3 0 0,none),(18,AV.ptr 0 8 0 0,none),(20,AV.slc 0 12 0 0 1 (au (fi (Int.ofNat m)) 1) none,none),(21,AV.int .i64 v,none)],{ lock:=false,bs:=[Z1,Z3,(0,aj.fmap hS gS cS),Z4,(0,aj.fmap hW gW cW),Z5,Z2,(0,aj.row (Row.I .i64 [s])),(0,aj.row (Row.I .i64 [left2])),(0,aj.row (Row.I .i64 [p])),Z6,(0,aj.row (Row.I .i64 [v])),(0,aj.row (Row.M [aC.arr .i64 (qe (nv z 0) (fi (Int.ofNat m)) (bE [v])) (au (fi (Int.ofNat m)) 1)]))] } :: H)))) (Tr.req (bt (au 0 (fi (Int.ofNat m))) m) (Tr.ok (Ex.normal,[(2,AV.int .i64 q,none),(4,AV.ptr 0 0 0 0,none),(7,AV.ptr 0 1 0 0,none),(9,AV.ptr 0 3 0 0,none),(18,AV.ptr 0 8 0 0,none),(20,AV.slc 0 10 0 0 1 (au (fi (Int.ofNat m)) 1) (some (fi (Int.ofNat m))),none),(21,AV.int .i64 v,none)],{ lock:=false,bs:=[Z1,Z3,(0,aj.fmap hS gS cS),Z4,(0,aj.fmap hW gW cW),Z5,Z2,(0,aj.row (Row.I .i64 [s])),(0,aj.row (Row.I .i64 [left2])),(0,aj.row (Row.I .i64 [p])),(0,aj.row (Row.M [aC.arr .i64 (fO z (au 0 (fi (Int.ofNat m))) v) m])),(0,aj.row (Row.I .i64 [v]))] } :: H)))))))))) (0,aj.row (Row.M [aC.arr .i64 z m])))) (0,aj.row (Row.G [AV.map 0 4])))) (0,aj.row (Row.G [AV.map 0 2])))) (0,aj.row (Row.G [AV.bool sure])))) (0,aj.row (Row.I .i64 [Int.ofNat 0])))) (0,aj.row (Row.G [a9 1 w ls ld zs zd sz kd])))) [AV.fn (Fn.func 110) [] [AV.ptrT (some 0) (Row.G [a9 1 w ls ld zs zd sz kd]) 0,AV.ptrT none (Row.I .i64 [a]) 0,AV.ptrT (some 0) (Row.G [AV.bool sure]) 0],AV.fn (Fn.func 105) [] [AV.ptr 0 3 0 0,AV.ptr 0 8 0 0]]:=by kernel_rfl
theorem Oh (n:Nat) (w:Int) (ls ld m:Nat) (zs zd sz kd z:Nat→Int) (H:ae) (p q a:Int) (sure:Bool) (hS:Int→Bool) (gS:Int→Int) (cS:Nat) (hW:Int→Bool) (gW:Int→Int) (cW:Nat) (s left:Int):aH (bF (n+14) 80 113) (il (b7 aG 103 (fun _=>none)) (n+13) 1) aJ aK (part Try.f80 [1,0,1,1,1,1,1,1,1,0,1,0,0]) (hints (n8 (.slc 0 10 0 0 1 m none) q a)) (yt w ls ld zs zd sz kd sure hS gS cS hW gW cW s left (Ae p z m)::H) =
 Tr.ite (aF a q) (Tr.ok (Ex.exit 6,[(2,AV.int .i64 q,none),(4,AV.ptr 0 0 0 0,none),(7,AV.ptr 0 1 0 0,none),(9,AV.ptr 0 3 0 0,none),(18,AV.ptr 0 8 0 0,none),(20,AV.slc 0 10 0 0 1 m none,none),(21,AV.int .i64 a,none),(94,AV.bool true,some 1)],{ lock:=false,bs:=[(0,aj.row (Row.G [a9 1 w ls ld zs zd sz kd])),(0,aj.row (Row.G [AV.bool sure])),(0,aj.fmap hS gS cS),(0,aj.row (Row.G [AV.map 0 2])),(0,aj.fmap hW gW cW),(0,aj.row (Row.G [AV.map 0 4])),(0,aj.row (Row.I .i64 [Int.ofNat 0])),(0,aj.row (Row.I .i64 [s])),(0,aj.row (Row.I .i64 [left])),(0,aj.row (Row.I .i64 [p])),(0,aj.row (Row.M [aC.arr .i64 z m]))] } :: H)) Tr.bad:=by kernel_rfl
theorem OX (n:Nat) (w:Int) (ls ld:Nat) (zs zd sz kd:Nat→Int) (H:ae) (p q:Int) (sure:Bool) (hS:Int→Bool) (gS:Int→Int) (cS:Nat) (hW:Int→Bool) (gW:Int→Int) (cW:Nat) (s:Int):aW Try.prog (cd (n+14)) 100000 80 Try.f80 (Kt.kt 80) (il aG (n+13) 1) (dc (fY aJ 6) 0 (oX p q) (gk w ls ld zs zd sz kd sure (df (fun _=>false) q true) (dF (fun _=>0) q 0) (fP false 0) (df (fun _=>false) q true) (dF (fun _=>0) q 0) (fP false 0) 0 []::H) (.ok (.normal,hints (ie p q++[(32,.bool false)]),fp w ls ld zs zd sz kd sure hS gS cS hW gW cW s []::H))) aK [(a9 0 w ls ld zs zd sz kd,none),(.int .i64 p,none),(.int .i64 q,none),(.bool sure,none)] H =
 (fun (Z0:b6)=>((fun (Z1:aO)=>Tr.reqP (Z1=Z1∧Z0::H=Z0::H) (Tr.ite (aD (hS p)) (Tr.ok ((AV.nils,none),H)) Tr.bad)) [(1,AV.int .i64 p),(2,AV.int .i64 q),(4,AV.ptr 0 0 0 0),(7,AV.ptr 0 1 0 0),(9,AV.ptr 0 3 0 0),(10,AV.ptr 0 5 0 0),(11,AV.ptr 0 6 0 0)])) { lock:=false,bs:=[(0,aj.row (Row.G [a9 1 w ls ld zs zd sz kd])),(0,aj.row (Row.G [AV.bool sure])),(0,aj.fmap (df (fun x=>false) q true) (dF (fun x=>Int.ofNat 0) q (Int.ofNat 0)) (fP false 0)),(0,aj.row (Row.G [AV.map 0 2])),(0,aj.fmap (df (fun x=>false) q true) (dF (fun x=>Int.ofNat 0) q (Int.ofNat 0)) (fP false 0)),(0,aj.row (Row.G [AV.map 0 4])),(0,aj.row (Row.I .i64 [Int.ofNat 0]))] }:=by kernel_rfl
theorem RY (n:Nat) (w:Int) (ls ld m:Nat) (zs zd sz kd z:Nat→Int) (H:ae) (p q a left2:Int) (sure:Bool) (hS:Int→Bool) (gS:Int→Int) (cS:Nat) (hW:Int→Bool) (gW:Int→Int) (cW:Nat) (s:Int):aW Try.prog (cd (n+14)) 100000 80 Try.f80 (Kt.kt 80) (il aG (n+13) 1) (dc (dc aJ 6 (n8 (.slc 0 9 0 0 1 1 (some 1)) q p) (yt w ls ld zs zd sz kd sure hS gS cS hW gW cW s (gS p) (Gl p)::H) (.ok (.normal,hints (n8 (.slc 0 10 0 0 1 m none) q a++[(94,.bool true)]),yt w ls ld zs zd sz kd sure hS gS cS hW gW cW s left2 (Ae p z m)::H))) 0 (oX p q) (gk w ls ld zs zd sz kd sure (df (fun _=>false) q true) (dF (fun _=>0) q 0) (fP false 0) (df (fun _=>false) q true) (dF (fun _=>0) q 0) (fP false 0) 0 []::H) (.ok (.normal,hints (ie p q++[(32,.bool false)]),fp w ls ld zs zd sz kd sure hS gS cS hW gW cW s []::H))) aK [(a9 0 w ls ld zs zd sz kd,none),(.int .i64 p,none),(.int .i64 q,none),(.bool sure,none)] H =
 (fun (Z0:b6)=>((fun (Z1:b6)=>((fun (Z2:aO)=>((fun (Z3:aO)=>Tr.reqP (Z3=Z3∧Z0::H=Z0::H) (Tr.ite (aD (hS p)) (Tr.ok ((AV.nils,none),H)) (Tr.reqP (Z2=Z2∧Z1::H=Z1::H) (Tr.req (dH 0 0) (Tr.req (kO 0 m 0 m) (Tr.ok ((AV.slcT none (Row.M [aC.arr .i64 (nv z 0) m]) 1 m false,none),H))))))) [(1,AV.int .i64 p),(2,AV.int .i64 q),(4,AV.ptr 0 0 0 0),(7,AV.ptr 0 1 0 0),(9,AV.ptr 0 3 0 0),(10,AV.ptr 0 5 0 0),(11,AV.ptr 0 6 0 0)])) [(2,AV.int .i64 q),(4,AV.ptr 0 0 0 0),(7,AV.ptr 0 1 0 0),(9,AV.ptr 0 3 0 0),(18,AV.ptr 0 8 0 0),(20,AV.slc 0 9 0 0 1 1 (some 1)),(21,AV.int .i64 p)])) { lock:=false,bs:=[(0,aj.row (Row.G [a9 1 w ls ld zs zd sz kd])),(0,aj.row (Row.G [AV.bool sure])),(0,aj.fmap hS gS cS),(0,aj.row (Row.G [AV.map 0 2])),(0,aj.fmap hW gW cW),(0,aj.row (Row.G [AV.map 0 4])),(0,aj.row (Row.I .i64 [Int.ofNat 0])),(0,aj.row (Row.I .i64 [s])),(0,aj.row (Row.I .i64 [gS p])),(0,aj.row (Row.I .i64 [p]))] })) { lock:=false,bs:=[(0,aj.row (Row.G [a9 1 w ls ld zs zd sz kd])),(0,aj.row (Row.G [AV.bool sure])),(0,aj.fmap (df (fun x=>false) q true) (dF (fun x=>Int.ofNat 0) q (Int.ofNat 0)) (fP false 0)),(0,aj.row (Row.G [AV.map 0 2])),(0,aj.fmap (df (fun x=>false) q true) (dF (fun x=>Int.ofNat 0) q (Int.ofNat 0)) (fP false 0)),(0,aj.row (Row.G [AV.map 0 4])),(0,aj.row (Row.I .i64 [Int.ofNat 0]))] }:=by kernel_rfl
theorem uC {n f nt:Nat} {c:Code} {callR:cr} {bl:iI} {rg:uq} {fr:a8} {H:ae} {T:Tr dg} (e:aH (bF n f nt) callR bl rg c fr H=T) (hC:callR.Ok (cd n)) (hB:bl.Ok (bF n f nt) c) (hR:rg.Ok (bF n f nt) c) {Q:Ex×aO×ae→Prop} (h:T.all fun x=>Q x.st):∃ x,exec (bF n f nt) c (strip fr) H=some x∧Q x:=by
 obtain ⟨x,h1,h2⟩:=h
 exact ⟨_,bK (cx:=bF n f nt) hC c hB hR fr H x (by rw[e];exact h1),h2⟩
noncomputable def jy (kd:Nat→Int) (sure:Bool) (ls:Nat) (S:WS) (p:Int):Nat→Int
 | 0=>p
 | k+1=>Iw kd sure ls S (S.gS p-((k+1:Nat):Int)) (jy kd sure ls S p k)
noncomputable def nr (A:Nat→Int):Nat→List Int
 | 0=>[A 0]
 | k+1=>nr A k++[A (k+1)]
theorem Aw (A:Nat→Int):∀ k,(nr A k).length=k+1
 | 0=>rfl
 | k+1=>by unfold nr;rw[List.length_append,Aw A k];rfl
noncomputable def Mn (q:Int) (A:Nat→Int):Nat→aO
 | 0=>n8 (.slc 0 9 0 0 1 1 (some 1)) q (A 0)
 | k+1=>n8 (.slc 0 10 0 0 1 (k+2) none) q (A (k+1))
noncomputable def NK (w:Int) (ls ld:Nat) (zs zd sz kd:Nat→Int) (sure:Bool) (S:WS) (s p:Int) (A:Nat→Int):Nat→b6
 | 0=>fK w ls ld zs zd sz kd sure S s (S.gS p) (Gl p)
 | k+1=>fK w ls ld zs zd sz kd sure S s (S.gS p-((k+1:Nat):Int)) (Ae p (bE (nr A (k+1))) (k+2))
theorem Pe:∀ b,(0,b) ∈ av (aL Try.f80)→b=.loop (part Try.f80 [1,0,1,1,0,1,0,0]):=by
 have:((av (aL Try.f80)).filter fun x=>Nat.beq x.1 0)=[(0,.loop (part Try.f80 [1,0,1,1,0,1,0,0]))]:=by kernel_rfl
 intro b hb
 have hm:(0,b) ∈ ((av (aL Try.f80)).filter fun x=>Nat.beq x.1 0):=List.mem_filter.2 ⟨hb,rfl⟩
 rw[this] at hm;simpa using hm
theorem PC:∀ b,(6,b) ∈ av (aL Try.f80)→b=.loop (part Try.f80 [1,0,1,1,1,1,1,1,1,0,1,0,0]):=by
 have:((av (aL Try.f80)).filter fun x=>Nat.beq x.1 6)=[(6,.loop (part Try.f80 [1,0,1,1,1,1,1,1,1,0,1,0,0]))]:=by kernel_rfl
 intro b hb
 have hm:(6,b) ∈ ((av (aL Try.f80)).filter fun x=>Nat.beq x.1 6):=List.mem_filter.2 ⟨hb,rfl⟩
 rw[this] at hm;simpa using hm
section
variable (n:Nat) (w:Int) (ls ld:Nat) (zs zd sz kd:Nat→Int) (H:ae) (p q s:Int) (sure:Bool) (S:WS)
theorem JC (hls:ls≤10) (a left:Int) (ha:-2≤a∧a<ls) (rest:List (Nat×aj)):(il (sJ aG 103 (Gr w ls ld zs zd sz kd a sure) (fK w ls ld zs zd sz kd sure S s left rest::H) (.ok (.int .i64 (Iw kd sure ls S left a),fK w ls ld zs zd sz kd sure S s left rest::H))) (n+13) 1).Ok (cd (n+14)) :=
 bQ _ (n+13) 1 (fun k=>fG (bB _) (fun x hx=>by
  rw[← Tr.ab hx,show n+13+k=n+6+k+7 by omega]
  exact IZ _ w ls ld zs zd sz kd H a s left sure S rest hls ha))
theorem Rw (hls:ls≤10) (N:Nat) (hN:N+1≤900) (hg:0≤S.gS p∧S.gS p≤1000) (hA:∀ k,k<N+1→-2≤jy kd sure ls S p k∧jy kd sure ls S p k<ls∧jy kd sure ls S p k≠q) (hE:jy kd sure ls S p (N+1)=q) :
 exec (bF (n+14) 80 113) (.block 6 (.loop (part Try.f80 [1,0,1,1,1,1,1,1,1,0,1,0,0]))) (n8 (.slc 0 9 0 0 1 1 (some 1)) q p) (fK w ls ld zs zd sz kd sure S s (S.gS p) (Gl p)::H) =
 some (.normal,n8 (.slc 0 10 0 0 1 (N+2) none) q q++[(94,.bool true)],fK w ls ld zs zd sz kd sure S s (S.gS p-((N+1:Nat):Int)) (Ae p (bE (nr (jy kd sure ls S p) (N+1))) (N+2))::H):=by
 have:=uE (n:=n+14) (f:=80) (nt:=113) (c:=part Try.f80 [1,0,1,1,1,1,1,1,1,0,1,0,0]) 6 (Mn q (jy kd sure ls S p)) (fun k=>NK w ls ld zs zd sz kd sure S s p (jy kd sure ls S p) k::H) (N+1) (n8 (.slc 0 10 0 0 1 (N+2) none) q q++[(94,.bool true)],fK w ls ld zs zd sz kd sure S s (S.gS p-((N+1:Nat):Int)) (Ae p (bE (nr (jy kd sure ls S p) (N+1))) (N+2))::H) (by omega) (fun k hk=>?_) ?_
 · exact this
 · obtain ⟨a1,a2,a3⟩:=hA k hk
   have eA:jy kd sure ls S p (k+1)=Iw kd sure ls S (S.gS p-((k+1:Nat):Int)) (jy kd sure ls S p k):=rfl
   have eL:nr (jy kd sure ls S p) (k+1)=nr (jy kd sure ls S p) k++[jy kd sure ls S p (k+1)]:=rfl
   have hlen:=Aw (jy kd sure ls S p) k
   have hil:=JC n w ls ld zs zd sz kd H s sure S hls (jy kd sure ls S p k) (S.gS p-((k+1:Nat):Int)) ⟨a1,a2⟩
   rw[← eA] at hil
   cases k with
   | zero =>
     have el:az .i64 (S.gS p) (Int.ofNat 1)=S.gS p-((0+1:Nat):Int):=by rw[aQ,show Int.ofNat 1=1 from rfl,bX (by omega) (by omega)];omega
     have e2:nr (jy kd sure ls S p) (0+1)=[p,jy kd sure ls S p (0+1)]:=rfl
     have a3:p≠q:=a3
     show ∃ x,exec (bF (n+14) 80 113) (part Try.f80 [1,0,1,1,1,1,1,1,1,0,1,0,0]) (strip (F8 q p)) (fK w ls ld zs zd sz kd sure S s (S.gS p) (Gl p)::H)=some x∧(x.1=.normal∧tidy 10 x.2.1 x.2.2=(n8 (.slc 0 10 0 0 1 2 none) q (jy kd sure ls S p (0+1)),fK w ls ld zs zd sz kd sure S s (S.gS p-((0+1:Nat):Int)) (Ae p (bE (nr (jy kd sure ls S p) (0+1))) 2)::H))
     rw[e2]
     have hil:=hil (Gl p)
     generalize S.gS p-((0+1:Nat):Int)=left2 at *
     generalize jy kd sure ls S p (0+1)=v at *
     refine uC (Of n w ls ld zs zd sz kd H p q p v sure S.hS S.gS S.cS S.hW S.gW S.cW s (S.gS p) left2) hil (ah _ _) (ai _ _) ?_
     rw[el]
     repeat' first | (refine Tr.an (fun hc=>?_) (fun hc=>?_)<;>(try simp (disch:=omega) only[nV,nW] at hc)<;>try omega) | (refine Tr.ao ?_ ?_;· (try simp (disch:=omega) only[nV,nW]);try omega) | (refine Tr.ak ?_ ?_;· first | exact trivial | rfl | exact ⟨rfl,rfl⟩ | exact ⟨rfl,rfl,rfl⟩ | (simp (disch:=omega) only[nV,nW];done) | ((try simp (disch:=omega) only[nV,nW]);omega)) | fail
     refine Tr.aq ⟨rfl,?_⟩
     simp only[bP]
     rfl
   | succ k =>
     have el:az .i64 (S.gS p-((k+1:Nat):Int)) (Int.ofNat 1)=S.gS p-((k+1+1:Nat):Int):=by rw[aQ,show Int.ofNat 1=1 from rfl,bX (by omega) (by omega)];omega
     have la:=uP (nr (jy kd sure ls S p) (k+1)) (jy kd sure ls S p (k+1+1))
     rw[hlen] at la
     show ∃ x,exec (bF (n+14) 80 113) (part Try.f80 [1,0,1,1,1,1,1,1,1,0,1,0,0]) (n8 (.slc 0 10 0 0 1 (k+2) none) q (jy kd sure ls S p (k+1))) (fK w ls ld zs zd sz kd sure S s (S.gS p-((k+1:Nat):Int)) (Ae p (bE (nr (jy kd sure ls S p) (k+1))) (k+2))::H)=some x∧(x.1=.normal∧tidy 10 x.2.1 x.2.2=(n8 (.slc 0 10 0 0 1 (k+1+2) none) q (jy kd sure ls S p (k+1+1)),fK w ls ld zs zd sz kd sure S s (S.gS p-((k+1+1:Nat):Int)) (Ae p (bE (nr (jy kd sure ls S p) (k+1+1))) (k+1+2))::H))
     rw[eL,← la]
     have hil:=hil (Ae p (bE (nr (jy kd sure ls S p) (k+1))) (k+2))
     generalize S.gS p-((k+1+1:Nat):Int)=left2 at *
     generalize S.gS p-((k+1:Nat):Int)=left at *
     generalize jy kd sure ls S p (k+1+1)=v at *
     generalize jy kd sure ls S p (k+1)=a at *
     generalize bE (nr (jy kd sure ls S p) (k+1))=z at *
     refine bz (Og n w ls ld (k+2) zs zd sz kd z H p q a v sure S.hS S.gS S.cS S.hW S.gW S.cW s left left2) hil (ah _ _) (ai _ _) ?_
     have et:fi (Int.ofNat (k+2))=k+2:=by rw[ir];rfl
     rw[el,et]
     repeat' first | (refine Tr.an (fun hc=>?_) (fun hc=>?_)<;>(try simp (disch:=omega) only[nV,nW] at hc)<;>try omega) | (refine Tr.ao ?_ ?_;· (try simp (disch:=omega) only[nV,nW]);try omega) | (refine Tr.ak ?_ ?_;· first | exact trivial | rfl | exact ⟨rfl,rfl⟩ | exact ⟨rfl,rfl,rfl⟩ | (simp (disch:=omega) only[nV,nW];done) | ((try simp (disch:=omega) only[nV,nW]);omega)) | fail
     refine Tr.aq ⟨rfl,?_⟩
     simp only[bP]
     rfl
 · show exec (bF (n+14) 80 113) (part Try.f80 [1,0,1,1,1,1,1,1,1,0,1,0,0]) (n8 (.slc 0 10 0 0 1 (N+2) none) q (jy kd sure ls S p (N+1))) (fK w ls ld zs zd sz kd sure S s (S.gS p-((N+1:Nat):Int)) (Ae p (bE (nr (jy kd sure ls S p) (N+1))) (N+2))::H)=_
   rw[hE]
   generalize S.gS p-((N+1:Nat):Int)=left at *
   generalize bE (nr (jy kd sure ls S p) (N+1))=z at *
   obtain ⟨x,h3,rfl⟩:=bz (Q:=fun x=>x=(.exit 6,n8 (.slc 0 10 0 0 1 (N+2) none) q q++[(94,.bool true)],fK w ls ld zs zd sz kd sure S s left (Ae p z (N+2))::H)) (Oh n w ls ld (N+2) zs zd sz kd z H p q q sure S.hS S.gS S.cS S.hW S.gW S.cW s left) (bQ _ (n+13) 1 (fun k=>bI (bB _) (fun args p v hg hp H=>by cases hg))) (ah _ _) (ai _ _) (by
    repeat' first | (refine Tr.an (fun hc=>?_) (fun hc=>?_)<;>(try simp (disch:=omega) only[nV,nW] at hc)<;>try omega) | (refine Tr.ao ?_ ?_;· (try simp (disch:=omega) only[nV,nW]);try omega) | (refine Tr.ak ?_ ?_;· first | exact trivial | rfl | exact ⟨rfl,rfl⟩ | exact ⟨rfl,rfl,rfl⟩ | (simp (disch:=omega) only[nV,nW];done) | ((try simp (disch:=omega) only[nV,nW]);omega)) | fail
    all_goals exact Tr.aq rfl)
   exact h3
theorem L7 (hls:ls≤10) (N:Nat) (hN:N+1≤900) (h1:∀ k,k<N+1→0<(ia kd sure ls q k).cW) (h2:(ia kd sure ls q (N+1)).cW=0) (hp:(ia kd sure ls q (N+1)).hS p=false) :
 cd (n+15) (.fn 80) [a9 0 w ls ld zs zd sz kd,.int .i64 p,.int .i64 q,.bool sure] H=some (.nils,H):=by
 have l:=Pp n w ls ld zs zd sz kd H p q sure hls N hN h1 h2
 generalize ia kd sure ls q (N+1)=S at *
 refine bp (n:=n+14) Try.func80 rfl rfl rfl (OX n w ls ld zs zd sz kd H p q sure S.hS S.gS S.cS S.hW S.gW S.cW ((N+1:Nat):Int)) (bU (n+13) 1) (bf (cN (ah _ _) 6) Pe (fun x hx=>?_)) (ai _ _) ?_
 · refine Eq.trans l ?_
   rw[← Tr.ab hx];simp only[dg.st,aw];rfl
 · repeat' first | (refine Tr.an (fun hc=>?_) (fun hc=>?_)<;>(try simp (disch:=omega) only[nV,nW] at hc)<;>try omega) | (refine Tr.ao ?_ ?_;· (try simp (disch:=omega) only[nV,nW]);try omega) | (refine Tr.ak ?_ ?_;· first | exact trivial | rfl | exact ⟨rfl,rfl⟩ | exact ⟨rfl,rfl,rfl⟩ | (simp (disch:=omega) only[nV,nW];done) | ((try simp (disch:=omega) only[nV,nW]);omega)) | fail
   all_goals first
    | exact Tr.aq ⟨rfl,rfl⟩
    | (exfalso;simp_all;done)
    | fail
theorem L8 (hls:ls≤10) (N:Nat) (hN:N+1≤900) (h1:∀ k,k<N+1→0<(ia kd sure ls q k).cW) (h2:(ia kd sure ls q (N+1)).cW=0) (hp:(ia kd sure ls q (N+1)).hS p=true)
 (M:Nat) (hM:M+1≤900) (hg:0≤(ia kd sure ls q (N+1)).gS p∧(ia kd sure ls q (N+1)).gS p≤1000) (hA:∀ k,k<M+1→-2≤jy kd sure ls (ia kd sure ls q (N+1)) p k∧jy kd sure ls (ia kd sure ls q (N+1)) p k<ls∧jy kd sure ls (ia kd sure ls q (N+1)) p k≠q) (hE:jy kd sure ls (ia kd sure ls q (N+1)) p (M+1)=q) :
 cd (n+15) (.fn 80) [a9 0 w ls ld zs zd sz kd,.int .i64 p,.int .i64 q,.bool sure] H=some (bn (M+2) (bE (nr (jy kd sure ls (ia kd sure ls q (N+1)) p) (M+1))) false,H):=by
 have l:=Pp n w ls ld zs zd sz kd H p q sure hls N hN h1 h2
 generalize ia kd sure ls q (N+1)=S at *
 have l2:=Rw n w ls ld zs zd sz kd H p q ((N+1:Nat):Int) sure S hls M hM hg hA hE
 refine bp (n:=n+14) Try.func80 rfl rfl rfl (RY n w ls ld (M+2) zs zd sz kd (bE (nr (jy kd sure ls S p) (M+1))) H p q q (S.gS p-((M+1:Nat):Int)) sure S.hS S.gS S.cS S.hW S.gW S.cW ((N+1:Nat):Int)) (bU (n+13) 1) (bf (bf (ah _ _) PC (fun x hx=>?_)) Pe (fun x hx=>?_)) (ai _ _) ?_
 · refine Eq.trans l2 ?_
   rw[← Tr.ab hx];simp only[dg.st,aw];rfl
 · refine Eq.trans l ?_
   rw[← Tr.ab hx];simp only[dg.st,aw];rfl
 · repeat' first | (refine Tr.an (fun hc=>?_) (fun hc=>?_)<;>(try simp (disch:=omega) only[nV,nW] at hc)<;>try omega) | (refine Tr.ao ?_ ?_;· (try simp (disch:=omega) only[nV,nW]);try omega) | (refine Tr.ak ?_ ?_;· first | exact trivial | rfl | exact ⟨rfl,rfl⟩ | exact ⟨rfl,rfl,rfl⟩ | (simp (disch:=omega) only[nV,nW];done) | ((try simp (disch:=omega) only[nV,nW]);omega)) | fail
   all_goals first
    | (refine Tr.aq ⟨?_,rfl⟩;rw[hJ];rfl)
    | (exfalso;simp_all;done)
    | fail
end
end Go.Eng
end
section
namespace Go.Eng
open Go.Proofs
set_option linter.unusedVariables false
set_option linter.unusedSimpArgs false
def IN (N:Nat) (hl:Int→Int→Bool) (z:Nat→Int):Prop:=∀ i k,i<N→k<N→k≠i→hl ((i:Int)-2) ((k:Int)-2)=true→z i≠0→z k≠0→z i≤z k+1
theorem IN.next {N:Nat} {hl:Int→Int→Bool} {t j:Nat} {z:Nat→Int} (h:Bx N hl t j z) (hL:IN N hl z):IN N hl (tj z ((j:Int)+1) hl N):=by
 have h2:=h.next
 intro i k hi hk hki hh h1 h3
 have val:∀ i,i<N→(z i=0∧tj z ((j:Int)+1) hl N i=j+2)∨tj z ((j:Int)+1) hl N i=z i:=fun i hi=>by
  unfold tj
  rw[if_pos hi]
  unfold H6
  by_cases hc:z i=0∧bD (Cl z ((j:Int)+1) hl i) N=true
  · rw[if_pos hc];exact .inl ⟨hc.1,by omega⟩
  · rw[if_neg hc];exact .inr rfl
 have ri:=h2.rng i
 have rk:=h2.rng k
 have r0:=h.rng k
 rcases val i hi with ⟨a1,a2⟩ | a1
 · rcases val k hk with ⟨b1,b2⟩ | b1
   · omega
   · rcases h.fro i k hi hk hki hh a1 with x | x<;>omega
 · rcases val k hk with ⟨b1,b2⟩ | b1
   · have:=h.rng i;omega
   · have:=hL i k hi hk hki hh (by omega) (by omega);omega
theorem De {N:Nat} {hl:Int→Int→Bool} {p:Int} (hp:-2≤p):∀ j,IN N hl (Dz (yH p) hl N j)
 | 0=>fun i k _ _ _ _ h1 h2=>by
   have v:∀ i,Dz (yH p) hl N 0 i=1∨Dz (yH p) hl N 0 i=0:=fun i=>by
    show yH p i=1∨yH p i=0
    unfold yH;split<;>simp
   rcases v i with x | x<;>rcases v k with y | y<;>omega
 | j+1=>IN.next (vp hp j) (De hp j)
structure ZI (ls:Nat) (hl:Int→Int→Bool) (t:Nat) (z:Nat→Int):Prop where
 tl:t<ls+2
 one:∀ i,z i=1↔i=t
 rng:∀ i,0≤z i∧z i≤ls+2
 nb:∀ i k,i<ls+2→k<ls+2→hl ((k:Int)-2) ((i:Int)-2)=true→0<z k→0<z i∧z i≤z k+1
 prev:∀ i,2≤z i→i<ls+2∧∃ k,k<ls+2∧hl ((k:Int)-2) ((i:Int)-2)=true∧z k=z i-1
 out:∀ i,ls+2≤i→z i=0
def iv (h:Int→Bool):Nat→Nat
 | 0=>0
 | N+1=>iv h N+(if h ((N:Int)-2)=true then 1 else 0)
theorem mP {h g:Int→Bool}:∀ N:Nat,(∀ i:Nat,i<N→h ((i:Int)-2)=g ((i:Int)-2))→iv h N=iv g N
 | 0,_=>rfl
 | N+1,e=>by unfold iv;rw[mP N (fun i hi=>e i (by omega)),e N (by omega)]
theorem qV {h:Int→Bool} {n:Int} (hn:-2≤n):∀ N:Nat,n+2<N→iv (di h n true) N=qh (h n) (iv h N)
 | 0,hN=>by omega
 | N + 1,hN=>by
   unfold iv
   by_cases e:(N:Int)-2=n
   · have e1:iv (di h n true) N=iv h N:=mP N (fun i hi=>by unfold di;rw[if_neg (by omega)])
     rw[e1,e]
     cases hb:h n<;>simp[di,qh]
   · rw[qV hn N (by omega)]
     have:di h n true ((N:Int)-2)=h ((N:Int)-2):=by unfold di;rw[if_neg e]
     rw[this]
     cases h n<;>simp[qh]<;>omega
theorem qW {h:Int→Bool} {n:Int} (hn:-2≤n) (hh:h n=true):∀ N:Nat,n+2<N→0<iv h N
 | 0,hN=>by omega
 | N+1,hN=>by
   unfold iv
   by_cases e:(N:Int)-2=n
   · rw[e,if_pos hh];omega
   · have:=qW hn hh N (by omega);omega
theorem vQ {h:Int→Bool} {n:Int} (hn:-2≤n):∀ N:Nat,n+2<N→iv (di h n false) N=sR (h n) (iv h N)
 | 0,hN=>by omega
 | N + 1,hN=>by
   unfold iv
   by_cases e:(N:Int)-2=n
   · have e1:iv (di h n false) N=iv h N:=mP N (fun i hi=>by unfold di;rw[if_neg (by omega)])
     rw[e1,e]
     cases hb:h n<;>simp[di,sR]
   · rw[vQ hn N (by omega)]
     have:di h n false ((N:Int)-2)=h ((N:Int)-2):=by unfold di;rw[if_neg e]
     rw[this]
     cases hb:h n
     · simp[sR]
     · have:=qW hn hb N (by omega)
       simp[sR];omega
theorem oQ {h:Int→Bool} (e:∀ x,h x=false):∀ N:Nat,iv h N=0
 | 0=>rfl
 | N+1=>by unfold iv;rw[oQ e N,e];rfl
structure FI (N:Nat) (g:Nat→Bool) (s:Int) (S0:WS) (m:Nat) (S:WS):Prop where
 hS:∀ y,S.hS y=true↔S0.hS y=true∨∃ i:Nat,i<m∧g i=true∧y=(i:Int)-2
 hW:∀ y,S.hW y=true↔S0.hW y=true∨(S0.hS y=false∧∃ i:Nat,i<m∧g i=true∧y=(i:Int)-2)
 oS:∀ y,S0.hS y=true→S.gS y=S0.gS y
 nS:∀ y,S0.hS y=false→S.hS y=true→S.gS y=s+1
 oW:∀ y,S0.hS y=true→S.gW y=S0.gW y
 nW:∀ y,S0.hS y=false→S.hW y=true→S.gW y=s+1
 cW:S.cW=iv S.hW N
theorem Dr     {N:Nat} {g:Nat→Bool} {s:Int} {S0:WS} (hsub:∀ y,S0.hW y=true→S0.hS y=true) (hc:S0.cW=iv S0.hW N):∀ m,m≤N→FI N g s S0 m (qd g s S0 m)
 | 0,_=>⟨fun y=>⟨.inl,fun h=>h.elim id (fun ⟨i,h,_⟩=>by omega)⟩,fun y=>⟨.inl,fun h=>h.elim id (fun ⟨_,i,h,_⟩=>by omega)⟩,fun y _=>rfl,fun y h1 h2=>(by rw[show (qd g s S0 0)=S0 from rfl,h1] at h2;cases h2),fun y _=>rfl,fun y h1 h2=>(by have:=hsub y h2;rw[h1] at this;cases this),hc⟩
 | m + 1, hm => by
   have ih:=Dr (g:=g) (s:=s) hsub hc m (by omega)
   have e:qd g s S0 (m+1)=if g m=true then Bt s ((m:Int)-2) (qd g s S0 m) else qd g s S0 m:=rfl
   rw[e]
   by_cases hg:g m=true
   · rw [if_pos hg]
     generalize qd g s S0 m=T at *
     unfold Bt
     by_cases ht:T.hS ((m:Int)-2)=true
     · rw[if_pos ht]
       refine ⟨fun y=>?_,fun y=>?_,ih.oS,ih.nS,ih.oW,ih.nW,ih.cW⟩
       · rw[ih.hS]
         constructor
         · rintro (a | ⟨i,i1,i2,i3⟩)
           · exact .inl a
           · exact .inr ⟨i,by omega,i2,i3⟩
         · rintro (a | ⟨i,i1,i2,i3⟩)
           · exact .inl a
           · by_cases ei:i=m
             · subst ei;subst i3;exact (ih.hS _).1 ht
             · exact .inr ⟨i,by omega,i2,i3⟩
       · rw[ih.hW]
         constructor
         · rintro (a | ⟨a,i,i1,i2,i3⟩)
           · exact .inl a
           · exact .inr ⟨a,i,by omega,i2,i3⟩
         · rintro (a | ⟨a,i,i1,i2,i3⟩)
           · exact .inl a
           · by_cases ei:i=m
             · subst ei;subst i3
               rcases (ih.hS _).1 ht with b | ⟨i',b1,b2,b3⟩
               · rw[a] at b;cases b
               · exact .inr ⟨a,i',b1,b2,b3⟩
             · exact .inr ⟨a,i,by omega,i2,i3⟩
     · rw [if_neg ht]
       have hf:T.hS ((m:Int)-2)=false:=by simpa using ht
       have h0:S0.hS ((m:Int)-2)=false:=by
        cases hb:S0.hS ((m:Int)-2) with
        | false=>rfl
        | true=>exact absurd ((ih.hS _).2 (.inl hb)) ht
       have hw:T.hW ((m:Int)-2)=false:=by
        cases hb:T.hW ((m:Int)-2) with
        | false=>rfl
        | true =>
          exfalso
          rcases (ih.hW _).1 hb with a | ⟨_,i,i1,i2,i3⟩
          · have:=hsub _ a;rw[h0] at this;cases this
          · exact ht ((ih.hS _).2 (.inr ⟨i,i1,i2,i3⟩))
       rw[g9,j7,nE,g9,j7,nE]
       refine ⟨fun y=>?_,fun y=>?_,fun y hy=>?_,fun y hy hy2=>?_,fun y hy=>?_,fun y hy hy2=>?_,?_⟩
       · show di T.hS ((m:Int)-2) true y=true↔_
         unfold di
         by_cases ey:y=(m:Int)-2
         · rw[if_pos ey];exact ⟨fun _=>.inr ⟨m,by omega,hg,ey⟩,fun _=>rfl⟩
         · rw[if_neg ey,ih.hS]
           constructor
           · rintro (a | ⟨i,i1,i2,i3⟩)
             · exact .inl a
             · exact .inr ⟨i,by omega,i2,i3⟩
           · rintro (a | ⟨i,i1,i2,i3⟩)
             · exact .inl a
             · exact .inr ⟨i,by omega,i2,i3⟩
       · show di T.hW ((m:Int)-2) true y=true↔_
         unfold di
         by_cases ey:y=(m:Int)-2
         · rw[if_pos ey];exact ⟨fun _=>.inr ⟨by rw[ey];exact h0,m,by omega,hg,ey⟩,fun _=>rfl⟩
         · rw[if_neg ey,ih.hW]
           constructor
           · rintro (a | ⟨a,i,i1,i2,i3⟩)
             · exact .inl a
             · exact .inr ⟨a,i,by omega,i2,i3⟩
           · rintro (a | ⟨a,i,i1,i2,i3⟩)
             · exact .inl a
             · exact .inr ⟨a,i,by omega,i2,i3⟩
       · have:y≠(m:Int)-2:=fun x=>by rw[x,h0] at hy;cases hy
         show gq T.gS ((m:Int)-2) (s+1) y=_
         unfold gq;rw[if_neg this];exact ih.oS y hy
       · show gq T.gS ((m:Int)-2) (s+1) y=_
         have hy2:di T.hS ((m:Int)-2) true y=true:=hy2
         unfold gq
         by_cases ey:y=(m:Int)-2
         · rw[if_pos ey]
         · rw[if_neg ey]
           unfold di at hy2
           rw[if_neg ey] at hy2
           exact ih.nS y hy hy2
       · have:y≠(m:Int)-2:=fun x=>by rw[x,h0] at hy;cases hy
         show gq T.gW ((m:Int)-2) (s+1) y=_
         unfold gq;rw[if_neg this];exact ih.oW y hy
       · show gq T.gW ((m:Int)-2) (s+1) y=_
         have hy2:di T.hW ((m:Int)-2) true y=true:=hy2
         unfold gq
         by_cases ey:y=(m:Int)-2
         · rw[if_pos ey]
         · rw[if_neg ey]
           unfold di at hy2
           rw[if_neg ey] at hy2
           exact ih.nW y hy hy2
       · show qh (T.hW ((m:Int)-2)) T.cW=iv (di T.hW ((m:Int)-2) true) N
         rw[qV (by omega) N (by omega),ih.cW]
   · rw[if_neg hg]
     refine ⟨fun y=>?_,fun y=>?_,ih.oS,ih.nS,ih.oW,ih.nW,ih.cW⟩
     · rw[ih.hS]
       constructor
       · rintro (a | ⟨i,i1,i2,i3⟩)
         · exact .inl a
         · exact .inr ⟨i,by omega,i2,i3⟩
       · rintro (a | ⟨i,i1,i2,i3⟩)
         · exact .inl a
         · by_cases ei:i=m
           · subst ei;exact absurd i2 hg
           · exact .inr ⟨i,by omega,i2,i3⟩
     · rw[ih.hW]
       constructor
       · rintro (a | ⟨a,i,i1,i2,i3⟩)
         · exact .inl a
         · exact .inr ⟨a,i,by omega,i2,i3⟩
       · rintro (a | ⟨a,i,i1,i2,i3⟩)
         · exact .inl a
         · by_cases ei:i=m
           · subst ei;exact absurd i2 hg
           · exact .inr ⟨a,i,by omega,i2,i3⟩
structure BI (ls:Nat) (hl:Int→Int→Bool) (z:Nat→Int) (k j:Nat) (S:WS):Prop where
 pS:∀ x,S.hS x=true↔(-2≤x∧x<ls)∧((1≤z (x+2).toNat∧z (x+2).toNat≤k+1)∨(z (x+2).toNat=k+2∧∃ i:Nat,i<j∧z i=k+1∧hl ((i:Int)-2) x=true))
 pW:∀ x,S.hW x=true↔(-2≤x∧x<ls)∧((z (x+2).toNat=k+1∧(j:Int)≤x+2)∨(z (x+2).toNat=k+2∧∃ i:Nat,i<j∧z i=k+1∧hl ((i:Int)-2) x=true))
 vS:∀ x,S.hS x=true→S.gS x=z (x+2).toNat-1
 vW:∀ x,S.hW x=true→S.gW x=z (x+2).toNat-1
 cW:S.cW=iv S.hW (ls+2)
theorem BI.sub {ls:Nat} {hl:Int→Int→Bool} {z:Nat→Int} {k j:Nat} {S:WS} (h:BI ls hl z k j S) (y:Int) (hy:S.hW y=true):S.hS y=true:=by
 obtain ⟨a,b⟩:=(h.pW y).1 hy
 refine (h.pS y).2 ⟨a,?_⟩
 rcases b with b | b
 · left;omega
 · exact .inr b
theorem BI.step {kd:Nat→Int} {sure:Bool} {ls t:Nat} {z:Nat→Int} (hZ:ZI ls (cG kd sure) t z) {k j:Nat} {S:WS} (h:BI ls (cG kd sure) z k j S) (hj:j<ls+2):BI ls (cG kd sure) z k (j+1) (Bu kd sure ls (k:Int) ((j:Int)-2) S):=by
 have ej:((j:Int)-2+2).toNat=j:=by omega
 unfold Bu
 by_cases hc:z j=k+1
 · have hw : S.hW ((j:Int)-2)=true:=(h.pW _).2 ⟨by omega,.inl ⟨by rw[ej];exact hc,by omega⟩⟩
   have hgw:S.gW ((j:Int)-2)=k:=by have:=h.vW _ hw;rw[ej] at this;omega
   rw[if_pos ⟨hw,hgw⟩]
   have hs1:∀ y,(FV ((j:Int)-2) S).hW y=true↔S.hW y=true∧y≠(j:Int)-2:=fun y=>by
    show df S.hW ((j:Int)-2) false y=true↔_
    rw[g9];unfold di
    by_cases e:y=(j:Int)-2
    · simp[e]
    · simp[e]
   have hD:=Dr (N:=ls+2) (g:=fun i=>cG kd sure ((j:Int)-2) ((i:Int)-2)) (s:=(k:Int)) (S0:=FV ((j:Int)-2) S) (fun y hy=>h.sub y ((hs1 y).1 hy).1) (by
    show lf (S.hW ((j:Int)-2)) S.cW=iv (df S.hW ((j:Int)-2) false) (ls+2)
    rw[vP,g9,vQ (by omega) _ (by omega),h.cW]) (ls+2) (Nat.le_refl _)
   generalize qd (fun i=>cG kd sure ((j:Int)-2) ((i:Int)-2)) (k:Int) (FV ((j:Int)-2) S) (ls+2)=T at *
   have g0:∀ y,(FV ((j:Int)-2) S).hS y=S.hS y:=fun y=>rfl
   -- a new place
   have new:∀ y,S.hS y=false→(∃ i:Nat,i<ls+2∧cG kd sure ((j:Int)-2) ((i:Int)-2)=true∧y=(i:Int)-2)→(-2≤y∧y<ls)∧z (y+2).toNat=k+2∧cG kd sure ((j:Int)-2) y=true:=fun y hy ⟨i,i1,i2,i3⟩=>by
    subst i3
    obtain ⟨b1,b2⟩:=hZ.nb i j i1 hj i2 (by omega)
    have ei:((i:Int)-2+2).toNat=i:=by omega
    refine ⟨by omega,?_,i2⟩
    rw[ei]
    by_cases e:z i=k+2
    · exact e
    · exfalso
      have:=(h.pS ((i:Int)-2)).2 ⟨by omega,.inl ⟨by rw[ei];omega,by rw[ei];omega⟩⟩
      rw[hy] at this;cases this
   refine ⟨fun x=>?_,fun x=>?_,fun x hx=>?_,fun x hx=>?_,hD.cW⟩
   · rw[hD.hS,g0,h.pS]
     constructor
     · rintro (⟨a,b⟩ | b)
       · refine ⟨a,?_⟩
         rcases b with b | ⟨b,i,i1,i2⟩
         · exact .inl b
         · exact .inr ⟨b,i,by omega,i2⟩
       · by_cases e:S.hS x=true
         · obtain ⟨a,b⟩:=(h.pS x).1 e
           refine ⟨a,?_⟩
           rcases b with b | ⟨b,i,i1,i2⟩
           · exact .inl b
           · exact .inr ⟨b,i,by omega,i2⟩
         · obtain ⟨a,b,c⟩:=new x (by simpa using e) b
           exact ⟨a,.inr ⟨b,j,by omega,hc,c⟩⟩
     · rintro ⟨a,b | ⟨b,i,i1,i2,i3⟩⟩
       · exact .inl ⟨a,.inl b⟩
       · by_cases e:i=j
         · subst e
           exact .inr ⟨(x+2).toNat,by omega,by rw[show (((x+2).toNat:Nat):Int)-2=x by omega];exact i3,by omega⟩
         · exact .inl ⟨a,.inr ⟨b,i,by omega,i2,i3⟩⟩
   · rw[hD.hW,hs1,g0,h.pW]
     constructor
     · rintro (⟨⟨a,b⟩,c⟩ | ⟨c,b⟩)
       · refine ⟨a,?_⟩
         rcases b with b | ⟨b,i,i1,i2⟩
         · exact .inl ⟨b.1,by omega⟩
         · exact .inr ⟨b,i,by omega,i2⟩
       · obtain ⟨a,b,d⟩:=new x c b
         exact ⟨a,.inr ⟨b,j,by omega,hc,d⟩⟩
     · rintro ⟨a,b | ⟨b,i,i1,i2,i3⟩⟩
       · exact .inl ⟨⟨a,.inl ⟨b.1,by omega⟩⟩,by omega⟩
       · have hne:x≠(j:Int)-2:=fun y=>by rw[y,ej,hc] at b;omega
         by_cases e:i=j
         · subst e
           by_cases e2:S.hS x=true
           · left
             refine ⟨⟨a,?_⟩,hne⟩
             rcases ((h.pS x).1 e2).2 with q | q
             · omega
             · exact .inr q
           · exact .inr ⟨by simpa using e2,(x+2).toNat,by omega,by rw[show (((x+2).toNat:Nat):Int)-2=x by omega];exact i3,by omega⟩
         · exact .inl ⟨⟨a,.inr ⟨b,i,by omega,i2,i3⟩⟩,hne⟩
   · by_cases e:S.hS x=true
     · rw[hD.oS x e];exact h.vS x e
     · have e:S.hS x=false:=by simpa using e
       rw[hD.nS x e hx]
       rcases (hD.hS x).1 hx with b | b
       · rw[g0,e] at b;cases b
       · obtain ⟨_,b,_⟩:=new x e b
         omega
   · by_cases e:S.hS x=true
     · rw[hD.oW x e]
       rcases (hD.hW x).1 hx with b | ⟨b,_⟩
       · obtain ⟨b1,b2⟩:=(hs1 x).1 b
         show dF S.gW ((j:Int)-2) 0 x=_
         rw[j7];unfold gq;rw[if_neg b2]
         exact h.vW x b1
       · rw[g0,e] at b;cases b
     · have e:S.hS x=false:=by simpa using e
       rw[hD.nW x e hx]
       rcases (hD.hW x).1 hx with b | ⟨_,b⟩
       · have:=h.sub x ((hs1 x).1 b).1;rw[e] at this;cases this
       · obtain ⟨_,b,_⟩:=new x e b
         omega
 · have hn : ¬ (S.hW ((j:Int)-2)=true∧S.gW ((j:Int)-2)=k):=fun ⟨a,b⟩=>by
    have:=h.vW _ a;rw[ej] at this;omega
   rw[if_neg hn]
   have ex:∀ x,(∃ i:Nat,i<j+1∧z i=k+1∧cG kd sure ((i:Int)-2) x=true)↔∃ i:Nat,i<j∧z i=k+1∧cG kd sure ((i:Int)-2) x=true:=fun x=>by
    constructor
    · rintro ⟨i,i1,i2,i3⟩
      by_cases e:i=j
      · subst e;exact absurd i2 hc
      · exact ⟨i,by omega,i2,i3⟩
    · rintro ⟨i,i1,i2⟩;exact ⟨i,by omega,i2⟩
   refine ⟨fun x=>?_,fun x=>?_,h.vS,h.vW,h.cW⟩
   · rw[h.pS,ex]
   · rw[h.pW,ex]
     constructor
     · rintro ⟨a,b | b⟩
       · refine ⟨a,.inl ⟨b.1,?_⟩⟩
         by_cases e:x+2=j
         · have:(x+2).toNat=j:=by omega
           rw[this] at b;exact absurd b.1 hc
         · have:=b.2;omega
       · exact ⟨a,.inr b⟩
     · rintro ⟨a,b | b⟩
       · exact ⟨a,.inl ⟨b.1,by omega⟩⟩
       · exact ⟨a,.inr b⟩
theorem BI.round {kd:Nat→Int} {sure:Bool} {ls t:Nat} {z:Nat→Int} (hZ:ZI ls (cG kd sure) t z) {k:Nat} {S:WS} (h:BI ls (cG kd sure) z k 0 S):∀ j,j≤ls+2→BI ls (cG kd sure) z k j (FW kd sure ls (k:Int) S j)
 | 0,_=>h
 | j+1,hj=>(BI.round hZ h j (by omega)).step hZ (by omega)
theorem BI.next {kd:Nat→Int} {sure:Bool} {ls t:Nat} {z:Nat→Int} (hZ:ZI ls (cG kd sure) t z) {k:Nat} {S:WS} (h:BI ls (cG kd sure) z k (ls+2) S):BI ls (cG kd sure) z (k+1) 0 S:=by
 have ex:∀ x:Int,(-2≤x∧x<ls)→z (x+2).toNat=k+2→∃ i:Nat,i<ls+2∧z i=k+1∧cG kd sure ((i:Int)-2) x=true:=fun x hx e=>by
  obtain ⟨_,i,i1,i2,i3⟩:=hZ.prev (x+2).toNat (by omega)
  rw[show (((x+2).toNat:Nat):Int)-2=x by omega] at i2
  exact ⟨i,i1,by omega,i2⟩
 refine ⟨fun x=>?_,fun x=>?_,h.vS,h.vW,h.cW⟩
 · rw[h.pS]
   constructor
   · rintro ⟨a,b | b⟩
     · exact ⟨a,.inl ⟨b.1,by omega⟩⟩
     · exact ⟨a,.inl ⟨by omega,by omega⟩⟩
   · rintro ⟨a,b | ⟨_,i,i1,_⟩⟩
     · by_cases e:z (x+2).toNat=k+2
       · exact ⟨a,.inr ⟨e,ex x a e⟩⟩
       · exact ⟨a,.inl ⟨b.1,by omega⟩⟩
     · omega
 · rw[h.pW]
   constructor
   · rintro ⟨a,b | b⟩
     · omega
     · exact ⟨a,.inl ⟨by omega,by omega⟩⟩
   · rintro ⟨a,b | ⟨_,i,i1,_⟩⟩
     · have e:z (x+2).toNat=k+2:=by omega
       exact ⟨a,.inr ⟨e,ex x a e⟩⟩
     · omega
theorem xP {kd:Nat→Int} {sure:Bool} {ls:Nat} {q:Int} (hq:-2≤q∧q<ls) {z:Nat→Int} (hZ:ZI ls (cG kd sure) (q+2).toNat z):∀ k,BI ls (cG kd sure) z k 0 (ia kd sure ls q k)
 | 0 => by
   have one:∀ x:Int,(-2≤x∧x<ls)→(z (x+2).toNat=1↔x=q):=fun x hx=>by rw[hZ.one];omega
   have hs:∀ x,df (fun _=>false) q true x=true↔x=q:=fun x=>by rw[g9];unfold di;by_cases e:x=q<;>simp[e]
   have gs:∀ x,x=q→dF (fun _=>0) q 0 x=z (x+2).toNat-1:=fun x e=>by
    subst e;rw[j7];unfold gq;rw[if_pos rfl,(one x hq).2 rfl];rfl
   refine ⟨fun x=>?_,fun x=>?_,fun x hx=>gs x ((hs x).1 hx),fun x hx=>gs x ((hs x).1 hx),?_⟩
   · show df (fun _=>false) q true x=true↔_
     rw[hs]
     constructor
     · intro e;subst e;exact ⟨hq,.inl (by have:=(one x hq).2 rfl;omega)⟩
     · rintro ⟨a,b | ⟨_,i,i1,_⟩⟩
       · exact (one x a).1 (by omega)
       · omega
   · show df (fun _=>false) q true x=true↔_
     rw[hs]
     constructor
     · intro e;subst e;exact ⟨hq,.inl ⟨by have:=(one x hq).2 rfl;omega,by omega⟩⟩
     · rintro ⟨a,b | ⟨_,i,i1,_⟩⟩
       · exact (one x a).1 (by omega)
       · omega
   · show fP false 0=iv (df (fun _=>false) q true) (ls+2)
     rw[nE,g9,qV (by omega) _ (by omega),oQ (fun _=>rfl)]
 | k+1=>((xP hq hZ k).round hZ (ls+2) (Nat.le_refl _)).next hZ
end Go.Eng
end
