/- Drop: way: from place to place. -/
import Derived.Test.YtjmjkhpfipglcaaV8Kxx2
import Derived.Test.YtjmjkhpfipglcaaV8Kqx2
import Derived.Test.YtjmjkhpfipglcaaV8DrMx13
section
namespace Go.Eng
open Go.Proofs
set_option linter.unusedVariables false
set_option linter.unusedSimpArgs false
set_option maxRecDepth 100000
noncomputable def fr86 (o:AV) (q a:Int):Frm:=[(2,.int .i64 q),(4,.ptr 0 0 0 0),(7,.ptr 0 1 0 0),(9,.ptr 0 3 0 0),(18,.ptr 0 8 0 0),(20,o),(21,.int .i64 a)]
noncomputable def fr86h (q a:Int):HFrm:=[(2,.int .i64 q,none),(4,.ptr 0 0 0 0,none),(7,.ptr 0 1 0 0,none),(9,.ptr 0 3 0 0,none),(18,.ptr 0 8 0 0,none),(20,.slc 0 9 0 0 1 1 (some 1),some 1),(21,.int .i64 a,none)]
noncomputable def a103 (w:Int) (ls ld:Nat) (zs zd sz kd:Nat→Int) (a:Int) (sure:Bool):List AV:=[.fn (.func 110) [] (capsN 1 w ls ld zs zd sz kd a sure),.fn (.func 105) [] [.ptr 0 3 0 0,.ptr 0 8 0 0]]
noncomputable def rsA (p:Int):List (Nat×Blk):=[(0,.row (.I .i64 [p]))]
noncomputable def rsB (p:Int) (z:Nat→Int) (m:Nat):List (Nat×Blk):=[(0,.row (.I .i64 [p])),(0,.row (.M [.arr .i64 z m]))]
theorem t86a (n:Nat) (w:Int) (ls ld:Nat) (zs zd sz kd:Nat→Int) (H:Heap) (p q a v:Int) (sure:Bool) (hS:Int→Bool) (gS:Int→Int) (cS:Nat) (hW:Int→Bool) (gW:Int→Int) (cW:Nat) (s left left2:Int):execT (cxD (n+14) 80 113) (il (ctE noCt 103 (a103 w ls ld zs zd sz kd a sure) (lvO w ls ld zs zd sz kd sure hS gS cS hW gW cW s left2 (rsA p)::H) (.ok (.int .i64 v,lvO w ls ld zs zd sz kd sure hS gS cS hW gW cW s left2 (rsA p)::H))) (n+13) 1) noBT noRT (part Try.f80 [1,0,1,1,1,1,1,1,1,0,1,0,0]) (fr86h q a) (lvO w ls ld zs zd sz kd sure hS gS cS hW gW cW s left (rsA p)::H) =
 (fun (Z0:List AV)=>((fun (Z1:Nat×Blk)=>((fun (Z2:Nat×Blk)=>((fun (Z3:Nat×Blk)=>((fun (Z4:Nat×Blk)=>((fun (Z5:Nat×Blk)=>Tr.ite (eqI a q) (Tr.ok (Ex.exit 6,[(2,AV.int .i64 q,none),(4,AV.ptr 0 0 0 0,none),(7,AV.ptr 0 1 0 0,none),(9,AV.ptr 0 3 0 0,none),(18,AV.ptr 0 8 0 0,none),(20,AV.slc 0 9 0 0 1 1 (some 1),some 1),(21,AV.int .i64 a,none),(94,AV.bool true,some 1)],{ lock:=false,bs:=[Z1,Z3,(0,Blk.fmap hS gS cS),Z4,(0,Blk.fmap hW gW cW),Z5,Z2,(0,Blk.row (Row.I .i64 [s])),(0,Blk.row (Row.I .i64 [left])),(0,Blk.row (Row.I .i64 [p]))] } :: H)) (Tr.reqP (Z0=Z0∧{ lock:=false,bs:=[Z1,Z3,(0,Blk.fmap hS gS cS),Z4,(0,Blk.fmap hW gW cW),Z5,Z2,(0,Blk.row (Row.I .i64 [s])),(0,Blk.row (Row.I .i64 [subI .i64 left (Int.ofNat 1)])),(0,Blk.row (Row.I .i64 [p]))] } :: H={ lock:=false,bs:=[Z1,Z3,(0,Blk.fmap hS gS cS),Z4,(0,Blk.fmap hW gW cW),Z5,Z2,(0,Blk.row (Row.I .i64 [s])),(0,Blk.row (Row.I .i64 [left2])),(0,Blk.row (Row.I .i64 [p]))] } :: H) (Tr.req (roomO 1 1 8) (Tr.req (leN 1 1) (Tr.ite (ltN 1 (addO 1 1)) (Tr.req (leN 1 1) (Tr.ok (Ex.normal,[(2,AV.int .i64 q,none),(4,AV.ptr 0 0 0 0,none),(7,AV.ptr 0 1 0 0,none),(9,AV.ptr 0 3 0 0,none),(18,AV.ptr 0 8 0 0,none),(20,AV.slc 0 11 0 0 1 (addO 1 1) none,none),(21,AV.int .i64 v,none)],{ lock:=false,bs:=[Z1,Z3,(0,Blk.fmap hS gS cS),Z4,(0,Blk.fmap hW gW cW),Z5,Z2,(0,Blk.row (Row.I .i64 [s])),(0,Blk.row (Row.I .i64 [left2])),(0,Blk.row (Row.I .i64 [p])),(0,Blk.row (Row.I .i64 [v])),(0,Blk.row (Row.M [Seg.arr .i64 (lstO [p,v]) 2]))] } :: H))) Tr.bad))))) (0,Blk.row (Row.G [AV.map 0 4])))) (0,Blk.row (Row.G [AV.map 0 2])))) (0,Blk.row (Row.G [AV.bool sure])))) (0,Blk.row (Row.I .i64 [Int.ofNat 0])))) (0,Blk.row (Row.G [tabR 1 w ls ld zs zd sz kd])))) [AV.fn (Fn.func 110) [] [AV.ptrT (some 0) (Row.G [tabR 1 w ls ld zs zd sz kd]) 0,AV.ptrT none (Row.I .i64 [a]) 0,AV.ptrT (some 0) (Row.G [AV.bool sure]) 0],AV.fn (Fn.func 105) [] [AV.ptr 0 3 0 0,AV.ptr 0 8 0 0]]:=by kernel_rfl
theorem t86b (n:Nat) (w:Int) (ls ld m:Nat) (zs zd sz kd z:Nat→Int) (H:Heap) (p q a v:Int) (sure:Bool) (hS:Int→Bool) (gS:Int→Int) (cS:Nat) (hW:Int→Bool) (gW:Int→Int) (cW:Nat) (s left left2:Int):execT (cxD (n+14) 80 113) (il (ctE noCt 103 (a103 w ls ld zs zd sz kd a sure) (lvO w ls ld zs zd sz kd sure hS gS cS hW gW cW s left2 (rsB p z m)::H) (.ok (.int .i64 v,lvO w ls ld zs zd sz kd sure hS gS cS hW gW cW s left2 (rsB p z m)::H))) (n+13) 1) noBT noRT (part Try.f80 [1,0,1,1,1,1,1,1,1,0,1,0,0]) (hints (fr86 (.slc 0 10 0 0 1 m none) q a)) (lvO w ls ld zs zd sz kd sure hS gS cS hW gW cW s left (rsB p z m)::H) =
 (fun (Z0:List AV)=>((fun (Z1:Nat×Blk)=>((fun (Z2:Nat×Blk)=>((fun (Z3:Nat×Blk)=>((fun (Z4:Nat×Blk)=>((fun (Z5:Nat×Blk)=>((fun (Z6:Nat×Blk)=>Tr.ite (eqI a q) (Tr.ok (Ex.exit 6,[(2,AV.int .i64 q,none),(4,AV.ptr 0 0 0 0,none),(7,AV.ptr 0 1 0 0,none),(9,AV.ptr 0 3 0 0,none),(18,AV.ptr 0 8 0 0,none),(20,AV.slc 0 10 0 0 1 m none,none),(21,AV.int .i64 a,none),(94,AV.bool true,some 1)],{ lock:=false,bs:=[Z1,Z3,(0,Blk.fmap hS gS cS),Z4,(0,Blk.fmap hW gW cW),Z5,Z2,(0,Blk.row (Row.I .i64 [s])),(0,Blk.row (Row.I .i64 [left])),(0,Blk.row (Row.I .i64 [p])),Z6] } :: H)) (Tr.reqP (Z0=Z0∧{ lock:=false,bs:=[Z1,Z3,(0,Blk.fmap hS gS cS),Z4,(0,Blk.fmap hW gW cW),Z5,Z2,(0,Blk.row (Row.I .i64 [s])),(0,Blk.row (Row.I .i64 [subI .i64 left (Int.ofNat 1)])),(0,Blk.row (Row.I .i64 [p])),Z6] } :: H={ lock:=false,bs:=[Z1,Z3,(0,Blk.fmap hS gS cS),Z4,(0,Blk.fmap hW gW cW),Z5,Z2,(0,Blk.row (Row.I .i64 [s])),(0,Blk.row (Row.I .i64 [left2])),(0,Blk.row (Row.I .i64 [p])),Z6] } :: H) (Tr.req (bndI (Int.ofNat m) m) (Tr.req (bndI (Int.ofNat m) (toN (Int.ofNat m))) (Tr.req (roomO (toN (Int.ofNat m)) 1 8) (Tr.req (leN 1 1) (Tr.ite (ltN (toN (Int.ofNat m)) (addO (toN (Int.ofNat m)) 1)) (Tr.req (leN (toN (Int.ofNat m)) (toN (Int.ofNat m))) (Tr.req (inO 0 (toN (Int.ofNat m)) 0 m) (Tr.ok (Ex.normal,[(2,AV.int .i64 q,none),(4,AV.ptr 0 0 0 0,none),(7,AV.ptr 0 1 0 0,none),(9,AV.ptr 0 3 0 0,none),(18,AV.ptr 0 8 0 0,none),(20,AV.slc 0 12 0 0 1 (addO (toN (Int.ofNat m)) 1) none,none),(21,AV.int .i64 v,none)],{ lock:=false,bs:=[Z1,Z3,(0,Blk.fmap hS gS cS),Z4,(0,Blk.fmap hW gW cW),Z5,Z2,(0,Blk.row (Row.I .i64 [s])),(0,Blk.row (Row.I .i64 [left2])),(0,Blk.row (Row.I .i64 [p])),Z6,(0,Blk.row (Row.I .i64 [v])),(0,Blk.row (Row.M [Seg.arr .i64 (appO (shO z 0) (toN (Int.ofNat m)) (lstO [v])) (addO (toN (Int.ofNat m)) 1)]))] } :: H)))) (Tr.req (ltN (addO 0 (toN (Int.ofNat m))) m) (Tr.ok (Ex.normal,[(2,AV.int .i64 q,none),(4,AV.ptr 0 0 0 0,none),(7,AV.ptr 0 1 0 0,none),(9,AV.ptr 0 3 0 0,none),(18,AV.ptr 0 8 0 0,none),(20,AV.slc 0 10 0 0 1 (addO (toN (Int.ofNat m)) 1) (some (toN (Int.ofNat m))),none),(21,AV.int .i64 v,none)],{ lock:=false,bs:=[Z1,Z3,(0,Blk.fmap hS gS cS),Z4,(0,Blk.fmap hW gW cW),Z5,Z2,(0,Blk.row (Row.I .i64 [s])),(0,Blk.row (Row.I .i64 [left2])),(0,Blk.row (Row.I .i64 [p])),(0,Blk.row (Row.M [Seg.arr .i64 (updO z (addO 0 (toN (Int.ofNat m))) v) m])),(0,Blk.row (Row.I .i64 [v]))] } :: H)))))))))) (0,Blk.row (Row.M [Seg.arr .i64 z m])))) (0,Blk.row (Row.G [AV.map 0 4])))) (0,Blk.row (Row.G [AV.map 0 2])))) (0,Blk.row (Row.G [AV.bool sure])))) (0,Blk.row (Row.I .i64 [Int.ofNat 0])))) (0,Blk.row (Row.G [tabR 1 w ls ld zs zd sz kd])))) [AV.fn (Fn.func 110) [] [AV.ptrT (some 0) (Row.G [tabR 1 w ls ld zs zd sz kd]) 0,AV.ptrT none (Row.I .i64 [a]) 0,AV.ptrT (some 0) (Row.G [AV.bool sure]) 0],AV.fn (Fn.func 105) [] [AV.ptr 0 3 0 0,AV.ptr 0 8 0 0]]:=by kernel_rfl
theorem t86e (n:Nat) (w:Int) (ls ld m:Nat) (zs zd sz kd z:Nat→Int) (H:Heap) (p q a:Int) (sure:Bool) (hS:Int→Bool) (gS:Int→Int) (cS:Nat) (hW:Int→Bool) (gW:Int→Int) (cW:Nat) (s left:Int):execT (cxD (n+14) 80 113) (il (ctG noCt 103 (fun _=>none)) (n+13) 1) noBT noRT (part Try.f80 [1,0,1,1,1,1,1,1,1,0,1,0,0]) (hints (fr86 (.slc 0 10 0 0 1 m none) q a)) (lvO w ls ld zs zd sz kd sure hS gS cS hW gW cW s left (rsB p z m)::H) =
 Tr.ite (eqI a q) (Tr.ok (Ex.exit 6,[(2,AV.int .i64 q,none),(4,AV.ptr 0 0 0 0,none),(7,AV.ptr 0 1 0 0,none),(9,AV.ptr 0 3 0 0,none),(18,AV.ptr 0 8 0 0,none),(20,AV.slc 0 10 0 0 1 m none,none),(21,AV.int .i64 a,none),(94,AV.bool true,some 1)],{ lock:=false,bs:=[(0,Blk.row (Row.G [tabR 1 w ls ld zs zd sz kd])),(0,Blk.row (Row.G [AV.bool sure])),(0,Blk.fmap hS gS cS),(0,Blk.row (Row.G [AV.map 0 2])),(0,Blk.fmap hW gW cW),(0,Blk.row (Row.G [AV.map 0 4])),(0,Blk.row (Row.I .i64 [Int.ofNat 0])),(0,Blk.row (Row.I .i64 [s])),(0,Blk.row (Row.I .i64 [left])),(0,Blk.row (Row.I .i64 [p])),(0,Blk.row (Row.M [Seg.arr .i64 z m]))] } :: H)) Tr.bad:=by kernel_rfl
theorem u80n (n:Nat) (w:Int) (ls ld:Nat) (zs zd sz kd:Nat→Int) (H:Heap) (p q:Int) (sure:Bool) (hS:Int→Bool) (gS:Int→Int) (cS:Nat) (hW:Int→Bool) (gW:Int→Int) (cW:Nat) (s:Int):bodyT Try.prog (cd (n+14)) 100000 80 Try.f80 (Kt.kt 80) (il noCt (n+13) 1) (blkE (stopB noBT 6) 0 (fr80_6 p q) (lv80_6 w ls ld zs zd sz kd sure (setBO (fun _=>false) q true) (setIO (fun _=>0) q 0) (cntAO false 0) (setBO (fun _=>false) q true) (setIO (fun _=>0) q 0) (cntAO false 0) 0 []::H) (.ok (.normal,hints (fr80_7 p q++[(32,.bool false)]),lv80_7 w ls ld zs zd sz kd sure hS gS cS hW gW cW s []::H))) noRT [(tabR 0 w ls ld zs zd sz kd,none),(.int .i64 p,none),(.int .i64 q,none),(.bool sure,none)] H =
 (fun (Z0:Lvl)=>((fun (Z1:Frm)=>Tr.reqP (Z1=Z1∧Z0::H=Z0::H) (Tr.ite (notB (hS p)) (Tr.ok ((AV.nils,none),H)) Tr.bad)) [(1,AV.int .i64 p),(2,AV.int .i64 q),(4,AV.ptr 0 0 0 0),(7,AV.ptr 0 1 0 0),(9,AV.ptr 0 3 0 0),(10,AV.ptr 0 5 0 0),(11,AV.ptr 0 6 0 0)])) { lock:=false,bs:=[(0,Blk.row (Row.G [tabR 1 w ls ld zs zd sz kd])),(0,Blk.row (Row.G [AV.bool sure])),(0,Blk.fmap (setBO (fun x=>false) q true) (setIO (fun x=>Int.ofNat 0) q (Int.ofNat 0)) (cntAO false 0)),(0,Blk.row (Row.G [AV.map 0 2])),(0,Blk.fmap (setBO (fun x=>false) q true) (setIO (fun x=>Int.ofNat 0) q (Int.ofNat 0)) (cntAO false 0)),(0,Blk.row (Row.G [AV.map 0 4])),(0,Blk.row (Row.I .i64 [Int.ofNat 0]))] }:=by kernel_rfl
theorem u80 (n:Nat) (w:Int) (ls ld m:Nat) (zs zd sz kd z:Nat→Int) (H:Heap) (p q a left2:Int) (sure:Bool) (hS:Int→Bool) (gS:Int→Int) (cS:Nat) (hW:Int→Bool) (gW:Int→Int) (cW:Nat) (s:Int):bodyT Try.prog (cd (n+14)) 100000 80 Try.f80 (Kt.kt 80) (il noCt (n+13) 1) (blkE (blkE noBT 6 (fr86 (.slc 0 9 0 0 1 1 (some 1)) q p) (lvO w ls ld zs zd sz kd sure hS gS cS hW gW cW s (gS p) (rsA p)::H) (.ok (.normal,hints (fr86 (.slc 0 10 0 0 1 m none) q a++[(94,.bool true)]),lvO w ls ld zs zd sz kd sure hS gS cS hW gW cW s left2 (rsB p z m)::H))) 0 (fr80_6 p q) (lv80_6 w ls ld zs zd sz kd sure (setBO (fun _=>false) q true) (setIO (fun _=>0) q 0) (cntAO false 0) (setBO (fun _=>false) q true) (setIO (fun _=>0) q 0) (cntAO false 0) 0 []::H) (.ok (.normal,hints (fr80_7 p q++[(32,.bool false)]),lv80_7 w ls ld zs zd sz kd sure hS gS cS hW gW cW s []::H))) noRT [(tabR 0 w ls ld zs zd sz kd,none),(.int .i64 p,none),(.int .i64 q,none),(.bool sure,none)] H =
 (fun (Z0:Lvl)=>((fun (Z1:Lvl)=>((fun (Z2:Frm)=>((fun (Z3:Frm)=>Tr.reqP (Z3=Z3∧Z0::H=Z0::H) (Tr.ite (notB (hS p)) (Tr.ok ((AV.nils,none),H)) (Tr.reqP (Z2=Z2∧Z1::H=Z1::H) (Tr.req (eqN 0 0) (Tr.req (inO 0 m 0 m) (Tr.ok ((AV.slcT none (Row.M [Seg.arr .i64 (shO z 0) m]) 1 m false,none),H))))))) [(1,AV.int .i64 p),(2,AV.int .i64 q),(4,AV.ptr 0 0 0 0),(7,AV.ptr 0 1 0 0),(9,AV.ptr 0 3 0 0),(10,AV.ptr 0 5 0 0),(11,AV.ptr 0 6 0 0)])) [(2,AV.int .i64 q),(4,AV.ptr 0 0 0 0),(7,AV.ptr 0 1 0 0),(9,AV.ptr 0 3 0 0),(18,AV.ptr 0 8 0 0),(20,AV.slc 0 9 0 0 1 1 (some 1)),(21,AV.int .i64 p)])) { lock:=false,bs:=[(0,Blk.row (Row.G [tabR 1 w ls ld zs zd sz kd])),(0,Blk.row (Row.G [AV.bool sure])),(0,Blk.fmap hS gS cS),(0,Blk.row (Row.G [AV.map 0 2])),(0,Blk.fmap hW gW cW),(0,Blk.row (Row.G [AV.map 0 4])),(0,Blk.row (Row.I .i64 [Int.ofNat 0])),(0,Blk.row (Row.I .i64 [s])),(0,Blk.row (Row.I .i64 [gS p])),(0,Blk.row (Row.I .i64 [p]))] })) { lock:=false,bs:=[(0,Blk.row (Row.G [tabR 1 w ls ld zs zd sz kd])),(0,Blk.row (Row.G [AV.bool sure])),(0,Blk.fmap (setBO (fun x=>false) q true) (setIO (fun x=>Int.ofNat 0) q (Int.ofNat 0)) (cntAO false 0)),(0,Blk.row (Row.G [AV.map 0 2])),(0,Blk.fmap (setBO (fun x=>false) q true) (setIO (fun x=>Int.ofNat 0) q (Int.ofNat 0)) (cntAO false 0)),(0,Blk.row (Row.G [AV.map 0 4])),(0,Blk.row (Row.I .i64 [Int.ofNat 0]))] }:=by kernel_rfl
theorem ex_allR {n f nt:Nat} {c:Code} {callR:CallTr} {bl:BlkT} {rg:RgT} {fr:HFrm} {H:Heap} {T:Tr Res} (e:execT (cxD n f nt) callR bl rg c fr H=T) (hC:callR.Ok (cd n)) (hB:bl.Ok (cxD n f nt) c) (hR:rg.Ok (cxD n f nt) c) {Q:Ex×Frm×Heap→Prop} (h:T.all fun x=>Q x.st):∃ x,exec (cxD n f nt) c (strip fr) H=some x∧Q x:=by
 obtain ⟨x,h1,h2⟩:=h
 exact ⟨_,execT_ok (cx:=cxD n f nt) hC c hB hR fr H x (by rw[e];exact h1),h2⟩
noncomputable def wAt (kd:Nat→Int) (sure:Bool) (ls:Nat) (S:WS) (p:Int):Nat→Int
 | 0=>p
 | k+1=>wFs kd sure ls S (S.gS p-((k+1:Nat):Int)) (wAt kd sure ls S p k)
noncomputable def wLs (A:Nat→Int):Nat→List Int
 | 0=>[A 0]
 | k+1=>wLs A k++[A (k+1)]
theorem wLs_len (A:Nat→Int):∀ k,(wLs A k).length=k+1
 | 0=>rfl
 | k+1=>by unfold wLs;rw[List.length_append,wLs_len A k];rfl
noncomputable def frSq (q:Int) (A:Nat→Int):Nat→Frm
 | 0=>fr86 (.slc 0 9 0 0 1 1 (some 1)) q (A 0)
 | k+1=>fr86 (.slc 0 10 0 0 1 (k+2) none) q (A (k+1))
noncomputable def lvSq (w:Int) (ls ld:Nat) (zs zd sz kd:Nat→Int) (sure:Bool) (S:WS) (s p:Int) (A:Nat→Int):Nat→Lvl
 | 0=>lvOW w ls ld zs zd sz kd sure S s (S.gS p) (rsA p)
 | k+1=>lvOW w ls ld zs zd sz kd sure S s (S.gS p-((k+1:Nat):Int)) (rsB p (lstO (wLs A (k+1))) (k+2))
theorem b80:∀ b,(0,b) ∈ blocksOf (bodyOf Try.f80)→b=.loop (part Try.f80 [1,0,1,1,0,1,0,0]):=by
 have:((blocksOf (bodyOf Try.f80)).filter fun x=>Nat.beq x.1 0)=[(0,.loop (part Try.f80 [1,0,1,1,0,1,0,0]))]:=by kernel_rfl
 intro b hb
 have hm:(0,b) ∈ ((blocksOf (bodyOf Try.f80)).filter fun x=>Nat.beq x.1 0):=List.mem_filter.2 ⟨hb,rfl⟩
 rw[this] at hm;simpa using hm
theorem b86:∀ b,(6,b) ∈ blocksOf (bodyOf Try.f80)→b=.loop (part Try.f80 [1,0,1,1,1,1,1,1,1,0,1,0,0]):=by
 have:((blocksOf (bodyOf Try.f80)).filter fun x=>Nat.beq x.1 6)=[(6,.loop (part Try.f80 [1,0,1,1,1,1,1,1,1,0,1,0,0]))]:=by kernel_rfl
 intro b hb
 have hm:(6,b) ∈ ((blocksOf (bodyOf Try.f80)).filter fun x=>Nat.beq x.1 6):=List.mem_filter.2 ⟨hb,rfl⟩
 rw[this] at hm;simpa using hm
section
variable (n:Nat) (w:Int) (ls ld:Nat) (zs zd sz kd:Nat→Int) (H:Heap) (p q s:Int) (sure:Bool) (S:WS)
theorem il103 (hls:ls≤10) (a left:Int) (ha:-2≤a∧a<ls) (rest:List (Nat×Blk)):(il (ctE noCt 103 (a103 w ls ld zs zd sz kd a sure) (lvOW w ls ld zs zd sz kd sure S s left rest::H) (.ok (.int .i64 (wFs kd sure ls S left a),lvOW w ls ld zs zd sz kd sure S s left rest::H))) (n+13) 1).Ok (cd (n+14)) :=
 il_ok _ (n+13) 1 (fun k=>ctE_ok (noCt_ok _) (fun x hx=>by
  rw[← Tr.ok_some hx,show n+13+k=n+6+k+7 by omega]
  exact c103q _ w ls ld zs zd sz kd H a s left sure S rest hls ha))
theorem l86 (hls:ls≤10) (N:Nat) (hN:N+1≤900) (hg:0≤S.gS p∧S.gS p≤1000) (hA:∀ k,k<N+1→-2≤wAt kd sure ls S p k∧wAt kd sure ls S p k<ls∧wAt kd sure ls S p k≠q) (hE:wAt kd sure ls S p (N+1)=q) :
 exec (cxD (n+14) 80 113) (.block 6 (.loop (part Try.f80 [1,0,1,1,1,1,1,1,1,0,1,0,0]))) (fr86 (.slc 0 9 0 0 1 1 (some 1)) q p) (lvOW w ls ld zs zd sz kd sure S s (S.gS p) (rsA p)::H) =
 some (.normal,fr86 (.slc 0 10 0 0 1 (N+2) none) q q++[(94,.bool true)],lvOW w ls ld zs zd sz kd sure S s (S.gS p-((N+1:Nat):Int)) (rsB p (lstO (wLs (wAt kd sure ls S p) (N+1))) (N+2))::H):=by
 have:=forX (n:=n+14) (f:=80) (nt:=113) (c:=part Try.f80 [1,0,1,1,1,1,1,1,1,0,1,0,0]) 6 (frSq q (wAt kd sure ls S p)) (fun k=>lvSq w ls ld zs zd sz kd sure S s p (wAt kd sure ls S p) k::H) (N+1) (fr86 (.slc 0 10 0 0 1 (N+2) none) q q++[(94,.bool true)],lvOW w ls ld zs zd sz kd sure S s (S.gS p-((N+1:Nat):Int)) (rsB p (lstO (wLs (wAt kd sure ls S p) (N+1))) (N+2))::H) (by omega) (fun k hk=>?_) ?_
 · exact this
 · obtain ⟨a1,a2,a3⟩:=hA k hk
   have eA:wAt kd sure ls S p (k+1)=wFs kd sure ls S (S.gS p-((k+1:Nat):Int)) (wAt kd sure ls S p k):=rfl
   have eL:wLs (wAt kd sure ls S p) (k+1)=wLs (wAt kd sure ls S p) k++[wAt kd sure ls S p (k+1)]:=rfl
   have hlen:=wLs_len (wAt kd sure ls S p) k
   have hil:=il103 n w ls ld zs zd sz kd H s sure S hls (wAt kd sure ls S p k) (S.gS p-((k+1:Nat):Int)) ⟨a1,a2⟩
   rw[← eA] at hil
   cases k with
   | zero =>
     have el:subI .i64 (S.gS p) (Int.ofNat 1)=S.gS p-((0+1:Nat):Int):=by rw[subI_eq,show Int.ofNat 1=1 from rfl,wr_64 (by omega) (by omega)];omega
     have e2:wLs (wAt kd sure ls S p) (0+1)=[p,wAt kd sure ls S p (0+1)]:=rfl
     have a3:p≠q:=a3
     show ∃ x,exec (cxD (n+14) 80 113) (part Try.f80 [1,0,1,1,1,1,1,1,1,0,1,0,0]) (strip (fr86h q p)) (lvOW w ls ld zs zd sz kd sure S s (S.gS p) (rsA p)::H)=some x∧(x.1=.normal∧tidy 10 x.2.1 x.2.2=(fr86 (.slc 0 10 0 0 1 2 none) q (wAt kd sure ls S p (0+1)),lvOW w ls ld zs zd sz kd sure S s (S.gS p-((0+1:Nat):Int)) (rsB p (lstO (wLs (wAt kd sure ls S p) (0+1))) 2)::H))
     rw[e2]
     have hil:=hil (rsA p)
     generalize S.gS p-((0+1:Nat):Int)=left2 at *
     generalize wAt kd sure ls S p (0+1)=v at *
     refine ex_allR (t86a n w ls ld zs zd sz kd H p q p v sure S.hS S.gS S.cS S.hW S.gW S.cW s (S.gS p) left2) hil (noBT_ok _ _) (noRT_ok _ _) ?_
     rw[el]
     repeat' first | (refine Tr.all_ite (fun hc=>?_) (fun hc=>?_)<;>(try simp (disch:=omega) only[nV,nW] at hc)<;>try omega) | (refine Tr.all_req ?_ ?_;· (try simp (disch:=omega) only[nV,nW]);try omega) | (refine Tr.all_reqP ?_ ?_;· first | exact trivial | rfl | exact ⟨rfl,rfl⟩ | exact ⟨rfl,rfl,rfl⟩ | (simp (disch:=omega) only[nV,nW];done) | ((try simp (disch:=omega) only[nV,nW]);omega)) | fail
     refine Tr.all_ok ⟨rfl,?_⟩
     simp only[addO_eq]
     rfl
   | succ k =>
     have el:subI .i64 (S.gS p-((k+1:Nat):Int)) (Int.ofNat 1)=S.gS p-((k+1+1:Nat):Int):=by rw[subI_eq,show Int.ofNat 1=1 from rfl,wr_64 (by omega) (by omega)];omega
     have la:=lst_app (wLs (wAt kd sure ls S p) (k+1)) (wAt kd sure ls S p (k+1+1))
     rw[hlen] at la
     show ∃ x,exec (cxD (n+14) 80 113) (part Try.f80 [1,0,1,1,1,1,1,1,1,0,1,0,0]) (fr86 (.slc 0 10 0 0 1 (k+2) none) q (wAt kd sure ls S p (k+1))) (lvOW w ls ld zs zd sz kd sure S s (S.gS p-((k+1:Nat):Int)) (rsB p (lstO (wLs (wAt kd sure ls S p) (k+1))) (k+2))::H)=some x∧(x.1=.normal∧tidy 10 x.2.1 x.2.2=(fr86 (.slc 0 10 0 0 1 (k+1+2) none) q (wAt kd sure ls S p (k+1+1)),lvOW w ls ld zs zd sz kd sure S s (S.gS p-((k+1+1:Nat):Int)) (rsB p (lstO (wLs (wAt kd sure ls S p) (k+1+1))) (k+1+2))::H))
     rw[eL,← la]
     have hil:=hil (rsB p (lstO (wLs (wAt kd sure ls S p) (k+1))) (k+2))
     generalize S.gS p-((k+1+1:Nat):Int)=left2 at *
     generalize S.gS p-((k+1:Nat):Int)=left at *
     generalize wAt kd sure ls S p (k+1+1)=v at *
     generalize wAt kd sure ls S p (k+1)=a at *
     generalize lstO (wLs (wAt kd sure ls S p) (k+1))=z at *
     refine ex_all (t86b n w ls ld (k+2) zs zd sz kd z H p q a v sure S.hS S.gS S.cS S.hW S.gW S.cW s left left2) hil (noBT_ok _ _) (noRT_ok _ _) ?_
     have et:toN (Int.ofNat (k+2))=k+2:=by rw[toN_eq];rfl
     rw[el,et]
     repeat' first | (refine Tr.all_ite (fun hc=>?_) (fun hc=>?_)<;>(try simp (disch:=omega) only[nV,nW] at hc)<;>try omega) | (refine Tr.all_req ?_ ?_;· (try simp (disch:=omega) only[nV,nW]);try omega) | (refine Tr.all_reqP ?_ ?_;· first | exact trivial | rfl | exact ⟨rfl,rfl⟩ | exact ⟨rfl,rfl,rfl⟩ | (simp (disch:=omega) only[nV,nW];done) | ((try simp (disch:=omega) only[nV,nW]);omega)) | fail
     refine Tr.all_ok ⟨rfl,?_⟩
     simp only[addO_eq]
     rfl
 · show exec (cxD (n+14) 80 113) (part Try.f80 [1,0,1,1,1,1,1,1,1,0,1,0,0]) (fr86 (.slc 0 10 0 0 1 (N+2) none) q (wAt kd sure ls S p (N+1))) (lvOW w ls ld zs zd sz kd sure S s (S.gS p-((N+1:Nat):Int)) (rsB p (lstO (wLs (wAt kd sure ls S p) (N+1))) (N+2))::H)=_
   rw[hE]
   generalize S.gS p-((N+1:Nat):Int)=left at *
   generalize lstO (wLs (wAt kd sure ls S p) (N+1))=z at *
   obtain ⟨x,h3,rfl⟩:=ex_all (Q:=fun x=>x=(.exit 6,fr86 (.slc 0 10 0 0 1 (N+2) none) q q++[(94,.bool true)],lvOW w ls ld zs zd sz kd sure S s left (rsB p z (N+2))::H)) (t86e n w ls ld (N+2) zs zd sz kd z H p q q sure S.hS S.gS S.cS S.hW S.gW S.cW s left) (il_ok _ (n+13) 1 (fun k=>ctG_ok (noCt_ok _) (fun args p v hg hp H=>by cases hg))) (noBT_ok _ _) (noRT_ok _ _) (by
    repeat' first | (refine Tr.all_ite (fun hc=>?_) (fun hc=>?_)<;>(try simp (disch:=omega) only[nV,nW] at hc)<;>try omega) | (refine Tr.all_req ?_ ?_;· (try simp (disch:=omega) only[nV,nW]);try omega) | (refine Tr.all_reqP ?_ ?_;· first | exact trivial | rfl | exact ⟨rfl,rfl⟩ | exact ⟨rfl,rfl,rfl⟩ | (simp (disch:=omega) only[nV,nW];done) | ((try simp (disch:=omega) only[nV,nW]);omega)) | fail
    all_goals exact Tr.all_ok rfl)
   exact h3
theorem c80n (hls:ls≤10) (N:Nat) (hN:N+1≤900) (h1:∀ k,k<N+1→0<(wsL kd sure ls q k).cW) (h2:(wsL kd sure ls q (N+1)).cW=0) (hp:(wsL kd sure ls q (N+1)).hS p=false) :
 cd (n+15) (.fn 80) [tabR 0 w ls ld zs zd sz kd,.int .i64 p,.int .i64 q,.bool sure] H=some (.nils,H):=by
 have l:=l80 n w ls ld zs zd sz kd H p q sure hls N hN h1 h2
 generalize wsL kd sure ls q (N+1)=S at *
 refine fn_all (n:=n+14) Try.func80 rfl rfl rfl (u80n n w ls ld zs zd sz kd H p q sure S.hS S.gS S.cS S.hW S.gW S.cW ((N+1:Nat):Int)) (il_no (n+13) 1) (blkE_ok (stopB_ok (noBT_ok _ _) 6) b80 (fun x hx=>?_)) (noRT_ok _ _) ?_
 · refine Eq.trans l ?_
   rw[← Tr.ok_some hx];simp only[Res.st,hints_eq];rfl
 · repeat' first | (refine Tr.all_ite (fun hc=>?_) (fun hc=>?_)<;>(try simp (disch:=omega) only[nV,nW] at hc)<;>try omega) | (refine Tr.all_req ?_ ?_;· (try simp (disch:=omega) only[nV,nW]);try omega) | (refine Tr.all_reqP ?_ ?_;· first | exact trivial | rfl | exact ⟨rfl,rfl⟩ | exact ⟨rfl,rfl,rfl⟩ | (simp (disch:=omega) only[nV,nW];done) | ((try simp (disch:=omega) only[nV,nW]);omega)) | fail
   all_goals first
    | exact Tr.all_ok ⟨rfl,rfl⟩
    | (exfalso;simp_all;done)
    | fail
theorem c80y (hls:ls≤10) (N:Nat) (hN:N+1≤900) (h1:∀ k,k<N+1→0<(wsL kd sure ls q k).cW) (h2:(wsL kd sure ls q (N+1)).cW=0) (hp:(wsL kd sure ls q (N+1)).hS p=true)
 (M:Nat) (hM:M+1≤900) (hg:0≤(wsL kd sure ls q (N+1)).gS p∧(wsL kd sure ls q (N+1)).gS p≤1000) (hA:∀ k,k<M+1→-2≤wAt kd sure ls (wsL kd sure ls q (N+1)) p k∧wAt kd sure ls (wsL kd sure ls q (N+1)) p k<ls∧wAt kd sure ls (wsL kd sure ls q (N+1)) p k≠q) (hE:wAt kd sure ls (wsL kd sure ls q (N+1)) p (M+1)=q) :
 cd (n+15) (.fn 80) [tabR 0 w ls ld zs zd sz kd,.int .i64 p,.int .i64 q,.bool sure] H=some (sl1 (M+2) (lstO (wLs (wAt kd sure ls (wsL kd sure ls q (N+1)) p) (M+1))) false,H):=by
 have l:=l80 n w ls ld zs zd sz kd H p q sure hls N hN h1 h2
 generalize wsL kd sure ls q (N+1)=S at *
 have l2:=l86 n w ls ld zs zd sz kd H p q ((N+1:Nat):Int) sure S hls M hM hg hA hE
 refine fn_all (n:=n+14) Try.func80 rfl rfl rfl (u80 n w ls ld (M+2) zs zd sz kd (lstO (wLs (wAt kd sure ls S p) (M+1))) H p q q (S.gS p-((M+1:Nat):Int)) sure S.hS S.gS S.cS S.hW S.gW S.cW ((N+1:Nat):Int)) (il_no (n+13) 1) (blkE_ok (blkE_ok (noBT_ok _ _) b86 (fun x hx=>?_)) b80 (fun x hx=>?_)) (noRT_ok _ _) ?_
 · refine Eq.trans l2 ?_
   rw[← Tr.ok_some hx];simp only[Res.st,hints_eq];rfl
 · refine Eq.trans l ?_
   rw[← Tr.ok_some hx];simp only[Res.st,hints_eq];rfl
 · repeat' first | (refine Tr.all_ite (fun hc=>?_) (fun hc=>?_)<;>(try simp (disch:=omega) only[nV,nW] at hc)<;>try omega) | (refine Tr.all_req ?_ ?_;· (try simp (disch:=omega) only[nV,nW]);try omega) | (refine Tr.all_reqP ?_ ?_;· first | exact trivial | rfl | exact ⟨rfl,rfl⟩ | exact ⟨rfl,rfl,rfl⟩ | (simp (disch:=omega) only[nV,nW];done) | ((try simp (disch:=omega) only[nV,nW]);omega)) | fail
   all_goals first
    | (refine Tr.all_ok ⟨?_,rfl⟩;rw[shO_zero];rfl)
    | (exfalso;simp_all;done)
    | fail
end
end Go.Eng
end
section
namespace Go.Eng
open Go.Proofs
set_option linter.unusedVariables false
set_option linter.unusedSimpArgs false
def Lip (N:Nat) (hl:Int→Int→Bool) (z:Nat→Int):Prop:=∀ i k,i<N→k<N→k≠i→hl ((i:Int)-2) ((k:Int)-2)=true→z i≠0→z k≠0→z i≤z k+1
theorem Lip.next {N:Nat} {hl:Int→Int→Bool} {t j:Nat} {z:Nat→Int} (h:StI N hl t j z) (hL:Lip N hl z):Lip N hl (stpS z ((j:Int)+1) hl N):=by
 have h2:=h.next
 intro i k hi hk hki hh h1 h3
 have val:∀ i,i<N→(z i=0∧stpS z ((j:Int)+1) hl N i=j+2)∨stpS z ((j:Int)+1) hl N i=z i:=fun i hi=>by
  unfold stpS
  rw[if_pos hi]
  unfold stpI
  by_cases hc:z i=0∧exN (hitK z ((j:Int)+1) hl i) N=true
  · rw[if_pos hc];exact .inl ⟨hc.1,by omega⟩
  · rw[if_neg hc];exact .inr rfl
 have ri:=h2.rng i
 have rk:=h2.rng k
 have r0:=h.rng k
 rcases val i hi with ⟨a1,a2⟩ | a1
 · rcases val k hk with ⟨b1,b2⟩ | b1
   · omega
   · rcases h.fro i k hi hk hki hh a1 with x | x<;>omega
 · rcases val k hk with ⟨b1,b2⟩ | b1
   · have:=h.rng i;omega
   · have:=hL i k hi hk hki hh (by omega) (by omega);omega
theorem st_lip {N:Nat} {hl:Int→Int→Bool} {p:Int} (hp:-2≤p):∀ j,Lip N hl (stJ (st0 p) hl N j)
 | 0=>fun i k _ _ _ _ h1 h2=>by
   have v:∀ i,stJ (st0 p) hl N 0 i=1∨stJ (st0 p) hl N 0 i=0:=fun i=>by
    show st0 p i=1∨st0 p i=0
    unfold st0;split<;>simp
   rcases v i with x | x<;>rcases v k with y | y<;>omega
 | j+1=>Lip.next (st_inv hp j) (st_lip hp j)
structure ZI (ls:Nat) (hl:Int→Int→Bool) (t:Nat) (z:Nat→Int):Prop where
 tl:t<ls+2
 one:∀ i,z i=1↔i=t
 rng:∀ i,0≤z i∧z i≤ls+2
 nb:∀ i k,i<ls+2→k<ls+2→hl ((k:Int)-2) ((i:Int)-2)=true→0<z k→0<z i∧z i≤z k+1
 prev:∀ i,2≤z i→i<ls+2∧∃ k,k<ls+2∧hl ((k:Int)-2) ((i:Int)-2)=true∧z k=z i-1
 out:∀ i,ls+2≤i→z i=0
def cntR (h:Int→Bool):Nat→Nat
 | 0=>0
 | N+1=>cntR h N+(if h ((N:Int)-2)=true then 1 else 0)
theorem cntR_congr {h g:Int→Bool}:∀ N:Nat,(∀ i:Nat,i<N→h ((i:Int)-2)=g ((i:Int)-2))→cntR h N=cntR g N
 | 0,_=>rfl
 | N+1,e=>by unfold cntR;rw[cntR_congr N (fun i hi=>e i (by omega)),e N (by omega)]
theorem cntR_add {h:Int→Bool} {n:Int} (hn:-2≤n):∀ N:Nat,n+2<N→cntR (setB h n true) N=cntA (h n) (cntR h N)
 | 0,hN=>by omega
 | N + 1,hN=>by
   unfold cntR
   by_cases e:(N:Int)-2=n
   · have e1:cntR (setB h n true) N=cntR h N:=cntR_congr N (fun i hi=>by unfold setB;rw[if_neg (by omega)])
     rw[e1,e]
     cases hb:h n<;>simp[setB,cntA]
   · rw[cntR_add hn N (by omega)]
     have:setB h n true ((N:Int)-2)=h ((N:Int)-2):=by unfold setB;rw[if_neg e]
     rw[this]
     cases h n<;>simp[cntA]<;>omega
theorem cntR_pos {h:Int→Bool} {n:Int} (hn:-2≤n) (hh:h n=true):∀ N:Nat,n+2<N→0<cntR h N
 | 0,hN=>by omega
 | N+1,hN=>by
   unfold cntR
   by_cases e:(N:Int)-2=n
   · rw[e,if_pos hh];omega
   · have:=cntR_pos hn hh N (by omega);omega
theorem cntR_del {h:Int→Bool} {n:Int} (hn:-2≤n):∀ N:Nat,n+2<N→cntR (setB h n false) N=cntD (h n) (cntR h N)
 | 0,hN=>by omega
 | N + 1,hN=>by
   unfold cntR
   by_cases e:(N:Int)-2=n
   · have e1:cntR (setB h n false) N=cntR h N:=cntR_congr N (fun i hi=>by unfold setB;rw[if_neg (by omega)])
     rw[e1,e]
     cases hb:h n<;>simp[setB,cntD]
   · rw[cntR_del hn N (by omega)]
     have:setB h n false ((N:Int)-2)=h ((N:Int)-2):=by unfold setB;rw[if_neg e]
     rw[this]
     cases hb:h n
     · simp[cntD]
     · have:=cntR_pos hn hb N (by omega)
       simp[cntD];omega
theorem cntR_none {h:Int→Bool} (e:∀ x,h x=false):∀ N:Nat,cntR h N=0
 | 0=>rfl
 | N+1=>by unfold cntR;rw[cntR_none e N,e];rfl
structure FI (N:Nat) (g:Nat→Bool) (s:Int) (S0:WS) (m:Nat) (S:WS):Prop where
 hS:∀ y,S.hS y=true↔S0.hS y=true∨∃ i:Nat,i<m∧g i=true∧y=(i:Int)-2
 hW:∀ y,S.hW y=true↔S0.hW y=true∨(S0.hS y=false∧∃ i:Nat,i<m∧g i=true∧y=(i:Int)-2)
 oS:∀ y,S0.hS y=true→S.gS y=S0.gS y
 nS:∀ y,S0.hS y=false→S.hS y=true→S.gS y=s+1
 oW:∀ y,S0.hS y=true→S.gW y=S0.gW y
 nW:∀ y,S0.hS y=false→S.hW y=true→S.gW y=s+1
 cW:S.cW=cntR S.hW N
theorem wsF_ok {N:Nat} {g:Nat→Bool} {s:Int} {S0:WS} (hsub:∀ y,S0.hW y=true→S0.hS y=true) (hc:S0.cW=cntR S0.hW N):∀ m,m≤N→FI N g s S0 m (wsF g s S0 m)
 | 0,_=>⟨fun y=>⟨.inl,fun h=>h.elim id (fun ⟨i,h,_⟩=>by omega)⟩,fun y=>⟨.inl,fun h=>h.elim id (fun ⟨_,i,h,_⟩=>by omega)⟩,fun y _=>rfl,fun y h1 h2=>(by rw[show (wsF g s S0 0)=S0 from rfl,h1] at h2;cases h2),fun y _=>rfl,fun y h1 h2=>(by have:=hsub y h2;rw[h1] at this;cases this),hc⟩
 | m + 1, hm => by
   have ih:=wsF_ok (g:=g) (s:=s) hsub hc m (by omega)
   have e:wsF g s S0 (m+1)=if g m=true then wsI s ((m:Int)-2) (wsF g s S0 m) else wsF g s S0 m:=rfl
   rw[e]
   by_cases hg:g m=true
   · rw [if_pos hg]
     generalize wsF g s S0 m=T at *
     unfold wsI
     by_cases ht:T.hS ((m:Int)-2)=true
     · rw[if_pos ht]
       refine ⟨fun y=>?_,fun y=>?_,ih.oS,ih.nS,ih.oW,ih.nW,ih.cW⟩
       · rw[ih.hS]
         constructor
         · rintro (a | ⟨i,i1,i2,i3⟩)
           · exact .inl a
           · exact .inr ⟨i,by omega,i2,i3⟩
         · rintro (a | ⟨i,i1,i2,i3⟩)
           · exact .inl a
           · by_cases ei:i=m
             · subst ei;subst i3;exact (ih.hS _).1 ht
             · exact .inr ⟨i,by omega,i2,i3⟩
       · rw[ih.hW]
         constructor
         · rintro (a | ⟨a,i,i1,i2,i3⟩)
           · exact .inl a
           · exact .inr ⟨a,i,by omega,i2,i3⟩
         · rintro (a | ⟨a,i,i1,i2,i3⟩)
           · exact .inl a
           · by_cases ei:i=m
             · subst ei;subst i3
               rcases (ih.hS _).1 ht with b | ⟨i',b1,b2,b3⟩
               · rw[a] at b;cases b
               · exact .inr ⟨a,i',b1,b2,b3⟩
             · exact .inr ⟨a,i,by omega,i2,i3⟩
     · rw [if_neg ht]
       have hf:T.hS ((m:Int)-2)=false:=by simpa using ht
       have h0:S0.hS ((m:Int)-2)=false:=by
        cases hb:S0.hS ((m:Int)-2) with
        | false=>rfl
        | true=>exact absurd ((ih.hS _).2 (.inl hb)) ht
       have hw:T.hW ((m:Int)-2)=false:=by
        cases hb:T.hW ((m:Int)-2) with
        | false=>rfl
        | true =>
          exfalso
          rcases (ih.hW _).1 hb with a | ⟨_,i,i1,i2,i3⟩
          · have:=hsub _ a;rw[h0] at this;cases this
          · exact ht ((ih.hS _).2 (.inr ⟨i,i1,i2,i3⟩))
       rw[setBO_eq,setIO_eq,cntAO_eq,setBO_eq,setIO_eq,cntAO_eq]
       refine ⟨fun y=>?_,fun y=>?_,fun y hy=>?_,fun y hy hy2=>?_,fun y hy=>?_,fun y hy hy2=>?_,?_⟩
       · show setB T.hS ((m:Int)-2) true y=true↔_
         unfold setB
         by_cases ey:y=(m:Int)-2
         · rw[if_pos ey];exact ⟨fun _=>.inr ⟨m,by omega,hg,ey⟩,fun _=>rfl⟩
         · rw[if_neg ey,ih.hS]
           constructor
           · rintro (a | ⟨i,i1,i2,i3⟩)
             · exact .inl a
             · exact .inr ⟨i,by omega,i2,i3⟩
           · rintro (a | ⟨i,i1,i2,i3⟩)
             · exact .inl a
             · exact .inr ⟨i,by omega,i2,i3⟩
       · show setB T.hW ((m:Int)-2) true y=true↔_
         unfold setB
         by_cases ey:y=(m:Int)-2
         · rw[if_pos ey];exact ⟨fun _=>.inr ⟨by rw[ey];exact h0,m,by omega,hg,ey⟩,fun _=>rfl⟩
         · rw[if_neg ey,ih.hW]
           constructor
           · rintro (a | ⟨a,i,i1,i2,i3⟩)
             · exact .inl a
             · exact .inr ⟨a,i,by omega,i2,i3⟩
           · rintro (a | ⟨a,i,i1,i2,i3⟩)
             · exact .inl a
             · exact .inr ⟨a,i,by omega,i2,i3⟩
       · have:y≠(m:Int)-2:=fun x=>by rw[x,h0] at hy;cases hy
         show setI T.gS ((m:Int)-2) (s+1) y=_
         unfold setI;rw[if_neg this];exact ih.oS y hy
       · show setI T.gS ((m:Int)-2) (s+1) y=_
         have hy2:setB T.hS ((m:Int)-2) true y=true:=hy2
         unfold setI
         by_cases ey:y=(m:Int)-2
         · rw[if_pos ey]
         · rw[if_neg ey]
           unfold setB at hy2
           rw[if_neg ey] at hy2
           exact ih.nS y hy hy2
       · have:y≠(m:Int)-2:=fun x=>by rw[x,h0] at hy;cases hy
         show setI T.gW ((m:Int)-2) (s+1) y=_
         unfold setI;rw[if_neg this];exact ih.oW y hy
       · show setI T.gW ((m:Int)-2) (s+1) y=_
         have hy2:setB T.hW ((m:Int)-2) true y=true:=hy2
         unfold setI
         by_cases ey:y=(m:Int)-2
         · rw[if_pos ey]
         · rw[if_neg ey]
           unfold setB at hy2
           rw[if_neg ey] at hy2
           exact ih.nW y hy hy2
       · show cntA (T.hW ((m:Int)-2)) T.cW=cntR (setB T.hW ((m:Int)-2) true) N
         rw[cntR_add (by omega) N (by omega),ih.cW]
   · rw[if_neg hg]
     refine ⟨fun y=>?_,fun y=>?_,ih.oS,ih.nS,ih.oW,ih.nW,ih.cW⟩
     · rw[ih.hS]
       constructor
       · rintro (a | ⟨i,i1,i2,i3⟩)
         · exact .inl a
         · exact .inr ⟨i,by omega,i2,i3⟩
       · rintro (a | ⟨i,i1,i2,i3⟩)
         · exact .inl a
         · by_cases ei:i=m
           · subst ei;exact absurd i2 hg
           · exact .inr ⟨i,by omega,i2,i3⟩
     · rw[ih.hW]
       constructor
       · rintro (a | ⟨a,i,i1,i2,i3⟩)
         · exact .inl a
         · exact .inr ⟨a,i,by omega,i2,i3⟩
       · rintro (a | ⟨a,i,i1,i2,i3⟩)
         · exact .inl a
         · by_cases ei:i=m
           · subst ei;exact absurd i2 hg
           · exact .inr ⟨a,i,by omega,i2,i3⟩
structure BI (ls:Nat) (hl:Int→Int→Bool) (z:Nat→Int) (k j:Nat) (S:WS):Prop where
 pS:∀ x,S.hS x=true↔(-2≤x∧x<ls)∧((1≤z (x+2).toNat∧z (x+2).toNat≤k+1)∨(z (x+2).toNat=k+2∧∃ i:Nat,i<j∧z i=k+1∧hl ((i:Int)-2) x=true))
 pW:∀ x,S.hW x=true↔(-2≤x∧x<ls)∧((z (x+2).toNat=k+1∧(j:Int)≤x+2)∨(z (x+2).toNat=k+2∧∃ i:Nat,i<j∧z i=k+1∧hl ((i:Int)-2) x=true))
 vS:∀ x,S.hS x=true→S.gS x=z (x+2).toNat-1
 vW:∀ x,S.hW x=true→S.gW x=z (x+2).toNat-1
 cW:S.cW=cntR S.hW (ls+2)
theorem BI.sub {ls:Nat} {hl:Int→Int→Bool} {z:Nat→Int} {k j:Nat} {S:WS} (h:BI ls hl z k j S) (y:Int) (hy:S.hW y=true):S.hS y=true:=by
 obtain ⟨a,b⟩:=(h.pW y).1 hy
 refine (h.pS y).2 ⟨a,?_⟩
 rcases b with b | b
 · left;omega
 · exact .inr b
theorem BI.step {kd:Nat→Int} {sure:Bool} {ls t:Nat} {z:Nat→Int} (hZ:ZI ls (hlK kd sure) t z) {k j:Nat} {S:WS} (h:BI ls (hlK kd sure) z k j S) (hj:j<ls+2):BI ls (hlK kd sure) z k (j+1) (wsO kd sure ls (k:Int) ((j:Int)-2) S):=by
 have ej:((j:Int)-2+2).toNat=j:=by omega
 unfold wsO
 by_cases hc:z j=k+1
 · have hw : S.hW ((j:Int)-2)=true:=(h.pW _).2 ⟨by omega,.inl ⟨by rw[ej];exact hc,by omega⟩⟩
   have hgw:S.gW ((j:Int)-2)=k:=by have:=h.vW _ hw;rw[ej] at this;omega
   rw[if_pos ⟨hw,hgw⟩]
   have hs1:∀ y,(wsD ((j:Int)-2) S).hW y=true↔S.hW y=true∧y≠(j:Int)-2:=fun y=>by
    show setBO S.hW ((j:Int)-2) false y=true↔_
    rw[setBO_eq];unfold setB
    by_cases e:y=(j:Int)-2
    · simp[e]
    · simp[e]
   have hD:=wsF_ok (N:=ls+2) (g:=fun i=>hlK kd sure ((j:Int)-2) ((i:Int)-2)) (s:=(k:Int)) (S0:=wsD ((j:Int)-2) S) (fun y hy=>h.sub y ((hs1 y).1 hy).1) (by
    show cntDO (S.hW ((j:Int)-2)) S.cW=cntR (setBO S.hW ((j:Int)-2) false) (ls+2)
    rw[cntDO_eq,setBO_eq,cntR_del (by omega) _ (by omega),h.cW]) (ls+2) (Nat.le_refl _)
   generalize wsF (fun i=>hlK kd sure ((j:Int)-2) ((i:Int)-2)) (k:Int) (wsD ((j:Int)-2) S) (ls+2)=T at *
   have g0:∀ y,(wsD ((j:Int)-2) S).hS y=S.hS y:=fun y=>rfl
   -- a new place
   have new:∀ y,S.hS y=false→(∃ i:Nat,i<ls+2∧hlK kd sure ((j:Int)-2) ((i:Int)-2)=true∧y=(i:Int)-2)→(-2≤y∧y<ls)∧z (y+2).toNat=k+2∧hlK kd sure ((j:Int)-2) y=true:=fun y hy ⟨i,i1,i2,i3⟩=>by
    subst i3
    obtain ⟨b1,b2⟩:=hZ.nb i j i1 hj i2 (by omega)
    have ei:((i:Int)-2+2).toNat=i:=by omega
    refine ⟨by omega,?_,i2⟩
    rw[ei]
    by_cases e:z i=k+2
    · exact e
    · exfalso
      have:=(h.pS ((i:Int)-2)).2 ⟨by omega,.inl ⟨by rw[ei];omega,by rw[ei];omega⟩⟩
      rw[hy] at this;cases this
   refine ⟨fun x=>?_,fun x=>?_,fun x hx=>?_,fun x hx=>?_,hD.cW⟩
   · rw[hD.hS,g0,h.pS]
     constructor
     · rintro (⟨a,b⟩ | b)
       · refine ⟨a,?_⟩
         rcases b with b | ⟨b,i,i1,i2⟩
         · exact .inl b
         · exact .inr ⟨b,i,by omega,i2⟩
       · by_cases e:S.hS x=true
         · obtain ⟨a,b⟩:=(h.pS x).1 e
           refine ⟨a,?_⟩
           rcases b with b | ⟨b,i,i1,i2⟩
           · exact .inl b
           · exact .inr ⟨b,i,by omega,i2⟩
         · obtain ⟨a,b,c⟩:=new x (by simpa using e) b
           exact ⟨a,.inr ⟨b,j,by omega,hc,c⟩⟩
     · rintro ⟨a,b | ⟨b,i,i1,i2,i3⟩⟩
       · exact .inl ⟨a,.inl b⟩
       · by_cases e:i=j
         · subst e
           exact .inr ⟨(x+2).toNat,by omega,by rw[show (((x+2).toNat:Nat):Int)-2=x by omega];exact i3,by omega⟩
         · exact .inl ⟨a,.inr ⟨b,i,by omega,i2,i3⟩⟩
   · rw[hD.hW,hs1,g0,h.pW]
     constructor
     · rintro (⟨⟨a,b⟩,c⟩ | ⟨c,b⟩)
       · refine ⟨a,?_⟩
         rcases b with b | ⟨b,i,i1,i2⟩
         · exact .inl ⟨b.1,by omega⟩
         · exact .inr ⟨b,i,by omega,i2⟩
       · obtain ⟨a,b,d⟩:=new x c b
         exact ⟨a,.inr ⟨b,j,by omega,hc,d⟩⟩
     · rintro ⟨a,b | ⟨b,i,i1,i2,i3⟩⟩
       · exact .inl ⟨⟨a,.inl ⟨b.1,by omega⟩⟩,by omega⟩
       · have hne:x≠(j:Int)-2:=fun y=>by rw[y,ej,hc] at b;omega
         by_cases e:i=j
         · subst e
           by_cases e2:S.hS x=true
           · left
             refine ⟨⟨a,?_⟩,hne⟩
             rcases ((h.pS x).1 e2).2 with q | q
             · omega
             · exact .inr q
           · exact .inr ⟨by simpa using e2,(x+2).toNat,by omega,by rw[show (((x+2).toNat:Nat):Int)-2=x by omega];exact i3,by omega⟩
         · exact .inl ⟨⟨a,.inr ⟨b,i,by omega,i2,i3⟩⟩,hne⟩
   · by_cases e:S.hS x=true
     · rw[hD.oS x e];exact h.vS x e
     · have e:S.hS x=false:=by simpa using e
       rw[hD.nS x e hx]
       rcases (hD.hS x).1 hx with b | b
       · rw[g0,e] at b;cases b
       · obtain ⟨_,b,_⟩:=new x e b
         omega
   · by_cases e:S.hS x=true
     · rw[hD.oW x e]
       rcases (hD.hW x).1 hx with b | ⟨b,_⟩
       · obtain ⟨b1,b2⟩:=(hs1 x).1 b
         show setIO S.gW ((j:Int)-2) 0 x=_
         rw[setIO_eq];unfold setI;rw[if_neg b2]
         exact h.vW x b1
       · rw[g0,e] at b;cases b
     · have e:S.hS x=false:=by simpa using e
       rw[hD.nW x e hx]
       rcases (hD.hW x).1 hx with b | ⟨_,b⟩
       · have:=h.sub x ((hs1 x).1 b).1;rw[e] at this;cases this
       · obtain ⟨_,b,_⟩:=new x e b
         omega
 · have hn : ¬ (S.hW ((j:Int)-2)=true∧S.gW ((j:Int)-2)=k):=fun ⟨a,b⟩=>by
    have:=h.vW _ a;rw[ej] at this;omega
   rw[if_neg hn]
   have ex:∀ x,(∃ i:Nat,i<j+1∧z i=k+1∧hlK kd sure ((i:Int)-2) x=true)↔∃ i:Nat,i<j∧z i=k+1∧hlK kd sure ((i:Int)-2) x=true:=fun x=>by
    constructor
    · rintro ⟨i,i1,i2,i3⟩
      by_cases e:i=j
      · subst e;exact absurd i2 hc
      · exact ⟨i,by omega,i2,i3⟩
    · rintro ⟨i,i1,i2⟩;exact ⟨i,by omega,i2⟩
   refine ⟨fun x=>?_,fun x=>?_,h.vS,h.vW,h.cW⟩
   · rw[h.pS,ex]
   · rw[h.pW,ex]
     constructor
     · rintro ⟨a,b | b⟩
       · refine ⟨a,.inl ⟨b.1,?_⟩⟩
         by_cases e:x+2=j
         · have:(x+2).toNat=j:=by omega
           rw[this] at b;exact absurd b.1 hc
         · have:=b.2;omega
       · exact ⟨a,.inr b⟩
     · rintro ⟨a,b | b⟩
       · exact ⟨a,.inl ⟨b.1,by omega⟩⟩
       · exact ⟨a,.inr b⟩
theorem BI.round {kd:Nat→Int} {sure:Bool} {ls t:Nat} {z:Nat→Int} (hZ:ZI ls (hlK kd sure) t z) {k:Nat} {S:WS} (h:BI ls (hlK kd sure) z k 0 S):∀ j,j≤ls+2→BI ls (hlK kd sure) z k j (wsR kd sure ls (k:Int) S j)
 | 0,_=>h
 | j+1,hj=>(BI.round hZ h j (by omega)).step hZ (by omega)
theorem BI.next {kd:Nat→Int} {sure:Bool} {ls t:Nat} {z:Nat→Int} (hZ:ZI ls (hlK kd sure) t z) {k:Nat} {S:WS} (h:BI ls (hlK kd sure) z k (ls+2) S):BI ls (hlK kd sure) z (k+1) 0 S:=by
 have ex:∀ x:Int,(-2≤x∧x<ls)→z (x+2).toNat=k+2→∃ i:Nat,i<ls+2∧z i=k+1∧hlK kd sure ((i:Int)-2) x=true:=fun x hx e=>by
  obtain ⟨_,i,i1,i2,i3⟩:=hZ.prev (x+2).toNat (by omega)
  rw[show (((x+2).toNat:Nat):Int)-2=x by omega] at i2
  exact ⟨i,i1,by omega,i2⟩
 refine ⟨fun x=>?_,fun x=>?_,h.vS,h.vW,h.cW⟩
 · rw[h.pS]
   constructor
   · rintro ⟨a,b | b⟩
     · exact ⟨a,.inl ⟨b.1,by omega⟩⟩
     · exact ⟨a,.inl ⟨by omega,by omega⟩⟩
   · rintro ⟨a,b | ⟨_,i,i1,_⟩⟩
     · by_cases e:z (x+2).toNat=k+2
       · exact ⟨a,.inr ⟨e,ex x a e⟩⟩
       · exact ⟨a,.inl ⟨b.1,by omega⟩⟩
     · omega
 · rw[h.pW]
   constructor
   · rintro ⟨a,b | b⟩
     · omega
     · exact ⟨a,.inl ⟨by omega,by omega⟩⟩
   · rintro ⟨a,b | ⟨_,i,i1,_⟩⟩
     · have e:z (x+2).toNat=k+2:=by omega
       exact ⟨a,.inr ⟨e,ex x a e⟩⟩
     · omega
theorem ws_bi {kd:Nat→Int} {sure:Bool} {ls:Nat} {q:Int} (hq:-2≤q∧q<ls) {z:Nat→Int} (hZ:ZI ls (hlK kd sure) (q+2).toNat z):∀ k,BI ls (hlK kd sure) z k 0 (wsL kd sure ls q k)
 | 0 => by
   have one:∀ x:Int,(-2≤x∧x<ls)→(z (x+2).toNat=1↔x=q):=fun x hx=>by rw[hZ.one];omega
   have hs:∀ x,setBO (fun _=>false) q true x=true↔x=q:=fun x=>by rw[setBO_eq];unfold setB;by_cases e:x=q<;>simp[e]
   have gs:∀ x,x=q→setIO (fun _=>0) q 0 x=z (x+2).toNat-1:=fun x e=>by
    subst e;rw[setIO_eq];unfold setI;rw[if_pos rfl,(one x hq).2 rfl];rfl
   refine ⟨fun x=>?_,fun x=>?_,fun x hx=>gs x ((hs x).1 hx),fun x hx=>gs x ((hs x).1 hx),?_⟩
   · show setBO (fun _=>false) q true x=true↔_
     rw[hs]
     constructor
     · intro e;subst e;exact ⟨hq,.inl (by have:=(one x hq).2 rfl;omega)⟩
     · rintro ⟨a,b | ⟨_,i,i1,_⟩⟩
       · exact (one x a).1 (by omega)
       · omega
   · show setBO (fun _=>false) q true x=true↔_
     rw[hs]
     constructor
     · intro e;subst e;exact ⟨hq,.inl ⟨by have:=(one x hq).2 rfl;omega,by omega⟩⟩
     · rintro ⟨a,b | ⟨_,i,i1,_⟩⟩
       · exact (one x a).1 (by omega)
       · omega
   · show cntAO false 0=cntR (setBO (fun _=>false) q true) (ls+2)
     rw[cntAO_eq,setBO_eq,cntR_add (by omega) _ (by omega),cntR_none (fun _=>rfl)]
 | k+1=>((ws_bi hq hZ k).round hZ (ls+2) (Nat.le_refl _)).next hZ
end Go.Eng
end
section
namespace Go.Eng
open Go.Proofs
set_option linter.unusedVariables false
set_option linter.unusedSimpArgs false
set_option maxRecDepth 100000
section
variable (n:Nat) (w:Int) (ls ld m:Nat) (zs zd z:Nat→Int) (H:Heap) (sure full:Bool)
end
end Go.Eng
end
