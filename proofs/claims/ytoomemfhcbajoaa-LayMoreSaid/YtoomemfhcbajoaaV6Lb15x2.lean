/- Lay: the closures; least. -/
import Derived.Test.YtoomemfhcbajoaaV6Lb13x2
section
namespace Go.Eng
open Go.Proofs
set_option linter.unusedVariables false
set_option linter.unusedSimpArgs false
set_option maxRecDepth 100000
noncomputable def fr72 (s l:Nat) (t:Nat→Int) (k:Nat) (d g:Nat→Int) (h:Int) (F:AV) (j:Int):Frm:=[(0,tbA (s+1) l t k d g),(1,.int .i64 h),(2,F),(7,.int .i64 j)]
noncomputable def lvC (T:Int):Lvl:=⟨false,[(0,.row (.I .i64 [T]))]⟩
theorem u75 (n:Nat) (i e T:Int) (L:Lvl) (H:Heap):bodyT Try.prog (cd n) 100000 75 Try.f75 (KtL.kt 75) (il noCt n 0) noBT noRT [(.int .i64 i,none),(.int .i64 e,none),(.ptr 1 0 0 0,none)] (L::lvC T::H) =
 Tr.ok ((AV.int .i64 (minO e T),none),L::{ lock:=false,bs:=[(0,Blk.row (Row.I .i64 [T]))] } :: H):=by kernel_rfl
theorem u77 (n:Nat) (i e T q:Int) (L L2:Lvl) (b0:Nat×Blk) (bs:List (Nat×Blk)) (H:Heap):bodyT Try.prog (cd n) 100000 77 Try.f77 (KtL.kt 77) (il noCt n 0) noBT noRT [(.int .i64 i,none),(.int .i64 e,none),(.ptr 3 1 0 0,none),(.ptr 1 0 0 0,none)] (L::lvC T::L2::⟨false,b0::cel q::bs⟩::H) =
 Tr.ite (eqI i q) (Tr.ok ((AV.int .i64 (minO e T),none),L::{ lock:=false,bs:=[(0,Blk.row (Row.I .i64 [T]))] } :: L2::{ lock:=false,bs:=b0::(0,Blk.row (Row.I .i64 [q]))::bs } :: H)) (Tr.ok ((AV.int .i64 e,none),L::{ lock:=false,bs:=[(0,Blk.row (Row.I .i64 [T]))] } :: L2::{ lock:=false,bs:=b0::(0,Blk.row (Row.I .i64 [q]))::bs } :: H)):=by kernel_rfl
theorem u73 (n l k:Nat) (t d g y:Nat→Int) (b0:Nat×Blk) (H:Heap) (T:Int):bodyT Try.prog (cd n) 100000 73 Try.f73 (KtL.kt 73) (il (ctE noCt 74 [tbA 2 l t k d g,.fn (.func 75) [] [.ptr 0 0 0 0]] (lvC T::lvE::⟨false,[b0,(0,.row (.G [tbA 0 l t k d g]))]⟩::H) (.ok (sl1 k y false,lvC T::lvE::⟨false,[b0,(0,.row (.G [tbA 0 l t k d g]))]⟩::H))) n 0) noBT noRT [(.int .i64 T,none),(.ptr 1 1 0 0,none)] (lvE::⟨false,[b0,(0,.row (.G [tbA 0 l t k d g]))]⟩::H) =
 (fun (Z0:Row)=>((fun (Z1:Lvl)=>Tr.reqP ([AV.ptrT (some 2) Z0 0,AV.fn (Fn.func 75) [] [AV.ptr 0 0 0 0]]=[AV.ptrT (some 2) Z0 0,AV.fn (Fn.func 75) [] [AV.ptr 0 0 0 0]]∧{ lock:=false,bs:=[(0,Blk.row (Row.I .i64 [T]))] } :: lvE::Z1::H={ lock:=false,bs:=[(0,Blk.row (Row.I .i64 [T]))] } :: lvE::Z1::H) (Tr.ok ((AV.slcT none (Row.M [Seg.arr .i64 y k]) 1 k false,none),lvE::Z1::H))) { lock:=false,bs:=[b0,(0,Blk.row (Row.G [AV.ptrT (some 0) Z0 0]))] })) (Row.M [Seg.one (AV.slcT none (Row.M [Seg.arr .i64 t l]) 1 l false),Seg.one (AV.slcT none (Row.M [Seg.arr .i64 d k]) 1 k false),Seg.arr .i64 g 30]):=by kernel_rfl
theorem u76 (n l k:Nat) (t d g y:Nat→Int) (b0 b2:Nat×Blk) (H:Heap) (T q:Int):bodyT Try.prog (cd n) 100000 76 Try.f76 (KtL.kt 76) (il (ctE noCt 74 [tbA 2 l t k d g,.fn (.func 77) [] [.ptr 2 1 0 0,.ptr 0 0 0 0]] (lvC T::lvE::⟨false,[b0,cel q,b2,(0,.row (.G [tbA 0 l t k d g]))]⟩::H) (.ok (sl1 k y false,lvC T::lvE::⟨false,[b0,cel q,b2,(0,.row (.G [tbA 0 l t k d g]))]⟩::H))) n 0) noBT noRT [(.int .i64 T,none),(.ptr 1 3 0 0,none),(.ptr 1 1 0 0,none)] (lvE::⟨false,[b0,cel q,b2,(0,.row (.G [tbA 0 l t k d g]))]⟩::H) =
 (fun (Z0:Row)=>((fun (Z1:Lvl)=>Tr.reqP ([AV.ptrT (some 2) Z0 0,AV.fn (Fn.func 77) [] [AV.ptr 2 1 0 0,AV.ptr 0 0 0 0]]=[AV.ptrT (some 2) Z0 0,AV.fn (Fn.func 77) [] [AV.ptr 2 1 0 0,AV.ptr 0 0 0 0]]∧{ lock:=false,bs:=[(0,Blk.row (Row.I .i64 [T]))] } :: lvE::Z1::H={ lock:=false,bs:=[(0,Blk.row (Row.I .i64 [T]))] } :: lvE::Z1::H) (Tr.ok ((AV.slcT none (Row.M [Seg.arr .i64 y k]) 1 k false,none),lvE::Z1::H))) { lock:=false,bs:=[b0,(0,Blk.row (Row.I .i64 [q])),b2,(0,Blk.row (Row.G [AV.ptrT (some 0) Z0 0]))] })) (Row.M [Seg.one (AV.slcT none (Row.M [Seg.arr .i64 t l]) 1 l false),Seg.one (AV.slcT none (Row.M [Seg.arr .i64 d k]) 1 k false),Seg.arr .i64 g 30]):=by kernel_rfl
theorem t72A (n s l k:Nat) (c1:Nat) (t d g y:Nat→Int) (H:Heap) (h j c:Int):execT (cxD n 72 20) (il (tX (ctE noCt 73 (.int .i64 j::[.ptr 1 c1 0 0]) (lvE::H) (.ok (sl1 k y false,lvE::H))) 69 [tbA (s+1) l t k d g,sl1 k y false,.int .i64 h] (.int .i64 c)) n 0) noBT noRT (part Try.f72 [1,0,1,0,0]) (hints (fr72 s l t k d g h (.fn (.func 73) [] [.ptr 1 c1 0 0]) j)) (lvE::H) =
 (fun (Z0:Row)=>((fun (Z1:List AV)=>Tr.ite (ltI j (Int.ofNat 40)) (Tr.reqP ([AV.int .i64 j,AV.ptr 1 c1 0 0]=[AV.int .i64 j,AV.ptr 1 c1 0 0]∧lvE::H=lvE::H) (Tr.reqP (Z1=Z1) (Tr.ite (ltI c (Int.ofNat 0)) (Tr.ok (Ex.ret,[(6,AV.int .i64 j,none)],lvE::H)) (Tr.ok (Ex.normal,[(0,AV.ptrT (some (Nat.succ s)) Z0 0,none),(1,AV.int .i64 h,none),(2,AV.fn (Fn.func 73) [] [AV.ptr 1 c1 0 0],none),(7,AV.int .i64 (addI .i64 j (Int.ofNat 1)),none)],lvE::H))))) (Tr.ok (Ex.exit 0,[(0,AV.ptrT (some (Nat.succ s)) Z0 0,none),(1,AV.int .i64 h,none),(2,AV.fn (Fn.func 73) [] [AV.ptr 1 c1 0 0],none),(7,AV.int .i64 j,none),(9,AV.bool false,some 1)],lvE::H))) [AV.ptrT (some (Nat.succ s)) Z0 0,AV.slcT none (Row.M [Seg.arr .i64 y k]) 1 k false,AV.int .i64 h])) (Row.M [Seg.one (AV.slcT none (Row.M [Seg.arr .i64 t l]) 1 l false),Seg.one (AV.slcT none (Row.M [Seg.arr .i64 d k]) 1 k false),Seg.arr .i64 g 30]):=by kernel_rfl
theorem t72xA (n s l k:Nat) (c1:Nat) (t d g:Nat→Int) (H:Heap) (h j:Int):execT (cxD n 72 20) (il (tN noCt 73) n 0) noBT noRT (part Try.f72 [1,0,1,0,0]) (hints (fr72 s l t k d g h (.fn (.func 73) [] [.ptr 1 c1 0 0]) j)) (lvE::H) =
 Tr.ite (ltI j (Int.ofNat 40)) Tr.bad (Tr.ok (Ex.exit 0,[(0,AV.ptrT (some (Nat.succ s)) (Row.M [Seg.one (AV.slcT none (Row.M [Seg.arr .i64 t l]) 1 l false),Seg.one (AV.slcT none (Row.M [Seg.arr .i64 d k]) 1 k false),Seg.arr .i64 g 30]) 0,none),(1,AV.int .i64 h,none),(2,AV.fn (Fn.func 73) [] [AV.ptr 1 c1 0 0],none),(7,AV.int .i64 j,none),(9,AV.bool false,some 1)],lvE::H)):=by kernel_rfl
theorem u72A (n s l k:Nat) (c1:Nat) (t d g:Nat→Int) (H:Heap) (h r:Int) (B:Bool):bodyT Try.prog (cd n) 100000 72 Try.f72 (KtL.kt 72) (il noCt n 0) (blkE noBT 0 (fr72 s l t k d g h (.fn (.func 73) [] [.ptr 1 c1 0 0]) 1) (lvE::H) (.ite B (.ok (.ret,[(6,.int .i64 r,none)],lvE::H)) (.ok (.normal,hints (fr72 s l t k d g h (.fn (.func 73) [] [.ptr 1 c1 0 0]) 40++[(9,.bool false)]),lvE::H)))) noRT [(tbA s l t k d g,none),(.int .i64 h,none),(.fn (.func 73) [] [.ptr 0 c1 0 0],none)] H =
 (fun (Z0:Frm)=>Tr.reqP (Z0=Z0∧lvE::H=lvE::H) (Tr.ite B (Tr.ok ((AV.int .i64 r,none),H)) (Tr.ok ((AV.int .i64 (Int.ofNat 40),some 1),H)))) [(0,AV.ptrT (some (Nat.succ s)) (Row.M [Seg.one (AV.slcT none (Row.M [Seg.arr .i64 t l]) 1 l false),Seg.one (AV.slcT none (Row.M [Seg.arr .i64 d k]) 1 k false),Seg.arr .i64 g 30]) 0),(1,AV.int .i64 h),(2,AV.fn (Fn.func 73) [] [AV.ptr 1 c1 0 0]),(7,AV.int .i64 (Int.ofNat 1))]:=by kernel_rfl
theorem t72B (n s l k:Nat) (c1 c2:Nat) (t d g y:Nat→Int) (H:Heap) (h j c:Int):execT (cxD n 72 20) (il (tX (ctE noCt 76 (.int .i64 j::[.ptr 1 c1 0 0,.ptr 1 c2 0 0]) (lvE::H) (.ok (sl1 k y false,lvE::H))) 69 [tbA (s+1) l t k d g,sl1 k y false,.int .i64 h] (.int .i64 c)) n 0) noBT noRT (part Try.f72 [1,0,1,0,0]) (hints (fr72 s l t k d g h (.fn (.func 76) [] [.ptr 1 c1 0 0,.ptr 1 c2 0 0]) j)) (lvE::H) =
 (fun (Z0:Row)=>((fun (Z1:List AV)=>Tr.ite (ltI j (Int.ofNat 40)) (Tr.reqP ([AV.int .i64 j,AV.ptr 1 c1 0 0,AV.ptr 1 c2 0 0]=[AV.int .i64 j,AV.ptr 1 c1 0 0,AV.ptr 1 c2 0 0]∧lvE::H=lvE::H) (Tr.reqP (Z1=Z1) (Tr.ite (ltI c (Int.ofNat 0)) (Tr.ok (Ex.ret,[(6,AV.int .i64 j,none)],lvE::H)) (Tr.ok (Ex.normal,[(0,AV.ptrT (some (Nat.succ s)) Z0 0,none),(1,AV.int .i64 h,none),(2,AV.fn (Fn.func 76) [] [AV.ptr 1 c1 0 0,AV.ptr 1 c2 0 0],none),(7,AV.int .i64 (addI .i64 j (Int.ofNat 1)),none)],lvE::H))))) (Tr.ok (Ex.exit 0,[(0,AV.ptrT (some (Nat.succ s)) Z0 0,none),(1,AV.int .i64 h,none),(2,AV.fn (Fn.func 76) [] [AV.ptr 1 c1 0 0,AV.ptr 1 c2 0 0],none),(7,AV.int .i64 j,none),(9,AV.bool false,some 1)],lvE::H))) [AV.ptrT (some (Nat.succ s)) Z0 0,AV.slcT none (Row.M [Seg.arr .i64 y k]) 1 k false,AV.int .i64 h])) (Row.M [Seg.one (AV.slcT none (Row.M [Seg.arr .i64 t l]) 1 l false),Seg.one (AV.slcT none (Row.M [Seg.arr .i64 d k]) 1 k false),Seg.arr .i64 g 30]):=by kernel_rfl
theorem t72xB (n s l k:Nat) (c1 c2:Nat) (t d g:Nat→Int) (H:Heap) (h j:Int):execT (cxD n 72 20) (il (tN noCt 76) n 0) noBT noRT (part Try.f72 [1,0,1,0,0]) (hints (fr72 s l t k d g h (.fn (.func 76) [] [.ptr 1 c1 0 0,.ptr 1 c2 0 0]) j)) (lvE::H) =
 Tr.ite (ltI j (Int.ofNat 40)) Tr.bad (Tr.ok (Ex.exit 0,[(0,AV.ptrT (some (Nat.succ s)) (Row.M [Seg.one (AV.slcT none (Row.M [Seg.arr .i64 t l]) 1 l false),Seg.one (AV.slcT none (Row.M [Seg.arr .i64 d k]) 1 k false),Seg.arr .i64 g 30]) 0,none),(1,AV.int .i64 h,none),(2,AV.fn (Fn.func 76) [] [AV.ptr 1 c1 0 0,AV.ptr 1 c2 0 0],none),(7,AV.int .i64 j,none),(9,AV.bool false,some 1)],lvE::H)):=by kernel_rfl
theorem u72B (n s l k:Nat) (c1 c2:Nat) (t d g:Nat→Int) (H:Heap) (h r:Int) (B:Bool):bodyT Try.prog (cd n) 100000 72 Try.f72 (KtL.kt 72) (il noCt n 0) (blkE noBT 0 (fr72 s l t k d g h (.fn (.func 76) [] [.ptr 1 c1 0 0,.ptr 1 c2 0 0]) 1) (lvE::H) (.ite B (.ok (.ret,[(6,.int .i64 r,none)],lvE::H)) (.ok (.normal,hints (fr72 s l t k d g h (.fn (.func 76) [] [.ptr 1 c1 0 0,.ptr 1 c2 0 0]) 40++[(9,.bool false)]),lvE::H)))) noRT [(tbA s l t k d g,none),(.int .i64 h,none),(.fn (.func 76) [] [.ptr 0 c1 0 0,.ptr 0 c2 0 0],none)] H =
 (fun (Z0:Frm)=>Tr.reqP (Z0=Z0∧lvE::H=lvE::H) (Tr.ite B (Tr.ok ((AV.int .i64 r,none),H)) (Tr.ok ((AV.int .i64 (Int.ofNat 40),some 1),H)))) [(0,AV.ptrT (some (Nat.succ s)) (Row.M [Seg.one (AV.slcT none (Row.M [Seg.arr .i64 t l]) 1 l false),Seg.one (AV.slcT none (Row.M [Seg.arr .i64 d k]) 1 k false),Seg.arr .i64 g 30]) 0),(1,AV.int .i64 h),(2,AV.fn (Fn.func 76) [] [AV.ptr 1 c1 0 0,AV.ptr 1 c2 0 0]),(7,AV.int .i64 (Int.ofNat 1))]:=by kernel_rfl
theorem b72:∀ b,(0,b) ∈ blocksOf (bodyOf Try.f72)→b=.loop (part Try.f72 [1,0,1,0,0]):=by
 have:((blocksOf (bodyOf Try.f72)).filter fun x=>Nat.beq x.1 0)=[(0,.loop (part Try.f72 [1,0,1,0,0]))]:=by kernel_rfl
 intro b hb
 have hm:(0,b) ∈ ((blocksOf (bodyOf Try.f72)).filter fun x=>Nat.beq x.1 0):=List.mem_filter.2 ⟨hb,rfl⟩
 rw[this] at hm;simpa using hm
def leaN (p:Nat→Bool):Nat:=if exN (fun j=>p (j+1)) 39=true then fN (fun j=>p (j+1)) 39 0+1 else 40
theorem leaN_bd (p:Nat→Bool):1≤leaN p∧leaN p≤40:=by
 unfold leaN
 by_cases c:exN (fun j=>p (j+1)) 39=true
 · rw[if_pos c]
   have:=exN_true c
   omega
 · rw[if_neg c];omega
section
variable (n:Nat) (H:Heap)
theorem c75 (i e T:Int) (L:Lvl):cd (n+1) (.fn 75) [.int .i64 i,.int .i64 e,.ptr 1 0 0 0] (L::lvC T::H)=some (.int .i64 (min e T),L::lvC T::H):=by
 refine fn_all (n:=n) Try.func75 rfl rfl rfl (u75 n i e T L H) (il_no0 _) (noBT_ok _ _) (noRT_ok _ _) ?_
 rw[minO_min]
 repeat' first | (refine Tr.all_ite (fun hc=>?_) (fun hc=>?_)<;>(try simp (disch:=omega) only[nV,nW] at hc)<;>try omega) | (refine Tr.all_req ?_ ?_;· (try simp (disch:=omega) only[nV,nW]);try omega) | (refine Tr.all_reqP ?_ ?_;· first | exact trivial | rfl | exact ⟨rfl,rfl⟩ | exact ⟨rfl,rfl,rfl⟩ | (simp (disch:=omega) only[nV,nW];done) | ((try simp (disch:=omega) only[nV,nW]);omega)) | fail
 all_goals first
  | exact Tr.all_ok ⟨rfl,rfl⟩
  | fail
theorem c77 (i e T q:Int) (L L2:Lvl) (b0:Nat×Blk) (bs:List (Nat×Blk)):cd (n+1) (.fn 77) [.int .i64 i,.int .i64 e,.ptr 3 1 0 0,.ptr 1 0 0 0] (L::lvC T::L2::⟨false,b0::cel q::bs⟩::H)=some (.int .i64 (if i=q then min e T else e),L::lvC T::L2::⟨false,b0::cel q::bs⟩::H):=by
 refine fn_all (n:=n) Try.func77 rfl rfl rfl (u77 n i e T q L L2 b0 bs H) (il_no0 _) (noBT_ok _ _) (noRT_ok _ _) ?_
 rw[minO_min]
 by_cases c:i=q
 · rw[if_pos c]
   repeat' first | (refine Tr.all_ite (fun hc=>?_) (fun hc=>?_)<;>(try simp (disch:=omega) only[nV,nW] at hc)<;>try omega) | (refine Tr.all_req ?_ ?_;· (try simp (disch:=omega) only[nV,nW]);try omega) | (refine Tr.all_reqP ?_ ?_;· first | exact trivial | rfl | exact ⟨rfl,rfl⟩ | exact ⟨rfl,rfl,rfl⟩ | (simp (disch:=omega) only[nV,nW];done) | ((try simp (disch:=omega) only[nV,nW]);omega)) | fail
   all_goals first
    | exact Tr.all_ok ⟨rfl,rfl⟩
    | fail
 · rw[if_neg c]
   repeat' first | (refine Tr.all_ite (fun hc=>?_) (fun hc=>?_)<;>(try simp (disch:=omega) only[nV,nW] at hc)<;>try omega) | (refine Tr.all_req ?_ ?_;· (try simp (disch:=omega) only[nV,nW]);try omega) | (refine Tr.all_reqP ?_ ?_;· first | exact trivial | rfl | exact ⟨rfl,rfl⟩ | exact ⟨rfl,rfl,rfl⟩ | (simp (disch:=omega) only[nV,nW];done) | ((try simp (disch:=omega) only[nV,nW]);omega)) | fail
   all_goals first
    | exact Tr.all_ok ⟨rfl,rfl⟩
    | fail
variable (l k:Nat) (t d g:Nat→Int)
theorem c73 (b0:Nat×Blk) (T:Int) (h0:0<k) (hk:k≤1000):cd (n+3) (.fn 73) [.int .i64 T,.ptr 1 1 0 0] (lvE::⟨false,[b0,(0,.row (.G [tbA 0 l t k d g]))]⟩::H)=some (sl1 k (lstO (faN (fun i=>min (d i) T) k)) false,lvE::⟨false,[b0,(0,.row (.G [tbA 0 l t k d g]))]⟩::H):=by
 refine fn_all (n:=n+2) Try.func73 rfl rfl rfl (u73 (n+2) l k t d g (lstO (faN (fun i=>min (d i) T) k)) b0 H T) (il_ok0 _ (n+2) (ctE_ok (noCt_ok _) (fun x hy=>by
  rw[← Tr.ok_some hy]
  exact c74A (n+1) 2 l k t d g (fun i e=>min e T) _ h0 hk (fun i e L=>c75 n _ i e T L)))) (noBT_ok _ _) (noRT_ok _ _) ?_
 generalize lstO (faN (fun i=>min (d i) T) k)=Y at *
 repeat' first | (refine Tr.all_ite (fun hc=>?_) (fun hc=>?_)<;>(try simp (disch:=omega) only[nV,nW] at hc)<;>try omega) | (refine Tr.all_req ?_ ?_;· (try simp (disch:=omega) only[nV,nW]);try omega) | (refine Tr.all_reqP ?_ ?_;· first | exact trivial | rfl | exact ⟨rfl,rfl⟩ | exact ⟨rfl,rfl,rfl⟩ | (simp (disch:=omega) only[nV,nW];done) | ((try simp (disch:=omega) only[nV,nW]);omega)) | fail
 all_goals first
  | exact Tr.all_ok ⟨rfl,rfl⟩
  | fail
theorem c76 (b0 b2:Nat×Blk) (T q:Int) (h0:0<k) (hk:k≤1000):cd (n+3) (.fn 76) [.int .i64 T,.ptr 1 3 0 0,.ptr 1 1 0 0] (lvE::⟨false,[b0,cel q,b2,(0,.row (.G [tbA 0 l t k d g]))]⟩::H)=some (sl1 k (lstO (faN (fun i=>if (i:Int)=q then min (d i) T else d i) k)) false,lvE::⟨false,[b0,cel q,b2,(0,.row (.G [tbA 0 l t k d g]))]⟩::H):=by
 refine fn_all (n:=n+2) Try.func76 rfl rfl rfl (u76 (n+2) l k t d g (lstO (faN (fun i=>if (i:Int)=q then min (d i) T else d i) k)) b0 b2 H T q) (il_ok0 _ (n+2) (ctE_ok (noCt_ok _) (fun x hy=>by
  rw[← Tr.ok_some hy]
  exact c74B (n+1) 2 l k 1 t d g (fun i e=>if i=q then min e T else e) _ h0 hk (fun i e L=>c77 n _ i e T q L _ b0 _)))) (noBT_ok _ _) (noRT_ok _ _) ?_
 generalize lstO (faN (fun i=>if (i:Int)=q then min (d i) T else d i) k)=Y at *
 repeat' first | (refine Tr.all_ite (fun hc=>?_) (fun hc=>?_)<;>(try simp (disch:=omega) only[nV,nW] at hc)<;>try omega) | (refine Tr.all_req ?_ ?_;· (try simp (disch:=omega) only[nV,nW]);try omega) | (refine Tr.all_reqP ?_ ?_;· first | exact trivial | rfl | exact ⟨rfl,rfl⟩ | exact ⟨rfl,rfl,rfl⟩ | (simp (disch:=omega) only[nV,nW];done) | ((try simp (disch:=omega) only[nV,nW]);omega)) | fail
 all_goals first
  | exact Tr.all_ok ⟨rfl,rfl⟩
  | fail
end
section
variable (n s l k:Nat) (c1:Nat) (t d g:Nat→Int) (H:Heap) (h:Int) (W:Nat→Nat→Int)
theorem c72A (hl:l≤30) (hk:k=l) (ht:∀ j,j<l→t j<l) (hc:cycB l t=false) (hW:∀ T,1≤T→T<40→Bd l (W T)) (hh:0≤h∧h≤1000)
 (hF:∀ T,1≤T→T<40→cd (n+4) (.fn 73) (.int .i64 (T:Nat)::[.ptr 1 c1 0 0]) (lvE::H)=some (sl1 k (W T) false,lvE::H)) :
 cd (n+5) (.fn 72) [tbA s l t k d g,.int .i64 h,.fn (.func 73) [] [.ptr 0 c1 0 0]] H=some (.int .i64 (leaN (fun T=>canB l t (W T) h):Nat),H):=by
 have hC:∀ j,j<39→(tX (ctE noCt 73 (.int .i64 ((j+1:Nat):Int)::[.ptr 1 c1 0 0]) (lvE::H) (.ok (sl1 k (W (j+1)) false,lvE::H))) 69 [tbA (s+1) l t k d g,sl1 k (W (j+1)) false,.int .i64 h] (.int .i64 (crT l t (W (j+1)) h))).Ok (cd (n+4)):=fun j hj =>
  tX_ok (ctE_ok (noCt_ok _) (fun x hy=>by rw[← Tr.ok_some hy];exact hF (j+1) (by omega) (by omega))) (fun H=>c69 n (s+1) l k k t d g (W (j+1)) false H h hl hk ht hc (hW (j+1) (by omega) (by omega)) hh)
 have hx:=findX (n:=n+4) (f:=72) (nt:=20) (c:=part Try.f72 [1,0,1,0,0]) 0 (fun j=>fr72 s l t k d g h (.fn (.func 73) [] [.ptr 1 c1 0 0]) ((j+1:Nat):Int)) (fun _=>lvE::H) 39 (fun j=>canB l t (W (j+1)) h) (fun j=>([(6,.int .i64 ((j+1:Nat):Int))],lvE::H)) (fr72 s l t k d g h (.fn (.func 73) [] [.ptr 1 c1 0 0]) 40++[(9,.bool false)],lvE::H) (by omega) (fun j hj=>?_) ?_
 · have hr:cond (exN (fun j=>canB l t (W (j+1)) h) 39) ((fN (fun j=>canB l t (W (j+1)) h) 39 0+1:Nat):Int) 40=(leaN (fun T=>canB l t (W T) h):Nat):=by
    unfold leaN
    cases exN (fun j=>canB l t (W (j+1)) h) 39 with
    | true=>rw[if_pos rfl];rfl
    | false=>rw[if_neg (by decide)];rfl
   refine fn_all (n:=n+4) Try.func72 rfl rfl rfl (u72A (n+4) s l k c1 t d g H h ((fN (fun j=>canB l t (W (j+1)) h) 39 0+1:Nat):Int) (exN (fun j=>canB l t (W (j+1)) h) 39)) (il_no0 _) (blkE_ok (noBT_ok _ _) b72 (fun x hy=>blk_ite hy hx)) (noRT_ok _ _) ?_
   rw[← hr]
   generalize ((fN (fun j=>canB l t (W (j+1)) h) 39 0+1:Nat):Int)=R at *
   generalize exN (fun j=>canB l t (W (j+1)) h) 39=B at *
   cases B
   all_goals
    simp only[cond_true,cond_false]
    repeat' first | (refine Tr.all_ite (fun hc=>?_) (fun hc=>?_)<;>(try simp (disch:=omega) only[nV,nW] at hc)<;>try omega) | (refine Tr.all_req ?_ ?_;· (try simp (disch:=omega) only[nV,nW]);try omega) | (refine Tr.all_reqP ?_ ?_;· first | exact trivial | rfl | exact ⟨rfl,rfl⟩ | exact ⟨rfl,rfl,rfl⟩ | (simp (disch:=omega) only[nV,nW];done) | ((try simp (disch:=omega) only[nV,nW]);omega)) | fail
    all_goals first
     | exact Tr.all_ok ⟨rfl,rfl⟩
     | fail
 · refine ex_all (t72A (n+4) s l k c1 t d g (W (j+1)) H h ((j+1:Nat):Int) (crT l t (W (j+1)) h)) (il_ok0 _ (n+4) (hC j hj)) (noBT_ok _ _) (noRT_ok _ _) ?_
   show Tr.all _ (fun r=>if canB l t (W (j+1)) h=true then _ else _)
   obtain ⟨q1,q2⟩:=crT_can l t (W (j+1)) h
   rw[cs64 (j:=j+1) (by omega)]
   generalize crT l t (W (j+1)) h=C at *
   cases hB:canB l t (W (j+1)) h with
   | true =>
     have:=q1.2 hB
     simp only[if_true]
     repeat' first | (refine Tr.all_ite (fun hc=>?_) (fun hc=>?_)<;>(try simp (disch:=omega) only[nV,nW] at hc)<;>try omega) | (refine Tr.all_req ?_ ?_;· (try simp (disch:=omega) only[nV,nW]);try omega) | (refine Tr.all_reqP ?_ ?_;· first | exact trivial | rfl | exact ⟨rfl,rfl⟩ | exact ⟨rfl,rfl,rfl⟩ | (simp (disch:=omega) only[nV,nW];done) | ((try simp (disch:=omega) only[nV,nW]);omega)) | fail
     all_goals first
      | exact Tr.all_ok rfl
      | fail
   | false =>
     have:=q2.2 hB
     simp only[Bool.false_eq_true,if_false]
     repeat' first | (refine Tr.all_ite (fun hc=>?_) (fun hc=>?_)<;>(try simp (disch:=omega) only[nV,nW] at hc)<;>try omega) | (refine Tr.all_req ?_ ?_;· (try simp (disch:=omega) only[nV,nW]);try omega) | (refine Tr.all_reqP ?_ ?_;· first | exact trivial | rfl | exact ⟨rfl,rfl⟩ | exact ⟨rfl,rfl,rfl⟩ | (simp (disch:=omega) only[nV,nW];done) | ((try simp (disch:=omega) only[nV,nW]);omega)) | fail
     all_goals first
      | exact Tr.all_ok ⟨rfl,rfl⟩
      | fail
 · exact ex_off (t72xA (n+4) s l k c1 t d g H h 40) (il_ok0 _ (n+4) (tN_ok (noCt_ok _))) (noBT_ok _ _) (noRT_ok _ _) (by first | (simp (disch:=omega) only[nV,nW];done) | (simp (disch:=omega) only[nV,nW];omega))
end
section
variable (n s l k:Nat) (c1 c2:Nat) (t d g:Nat→Int) (H:Heap) (h:Int) (W:Nat→Nat→Int)
theorem c72B (hl:l≤30) (hk:k=l) (ht:∀ j,j<l→t j<l) (hc:cycB l t=false) (hW:∀ T,1≤T→T<40→Bd l (W T)) (hh:0≤h∧h≤1000)
 (hF:∀ T,1≤T→T<40→cd (n+4) (.fn 76) (.int .i64 (T:Nat)::[.ptr 1 c1 0 0,.ptr 1 c2 0 0]) (lvE::H)=some (sl1 k (W T) false,lvE::H)) :
 cd (n+5) (.fn 72) [tbA s l t k d g,.int .i64 h,.fn (.func 76) [] [.ptr 0 c1 0 0,.ptr 0 c2 0 0]] H=some (.int .i64 (leaN (fun T=>canB l t (W T) h):Nat),H):=by
 have hC:∀ j,j<39→(tX (ctE noCt 76 (.int .i64 ((j+1:Nat):Int)::[.ptr 1 c1 0 0,.ptr 1 c2 0 0]) (lvE::H) (.ok (sl1 k (W (j+1)) false,lvE::H))) 69 [tbA (s+1) l t k d g,sl1 k (W (j+1)) false,.int .i64 h] (.int .i64 (crT l t (W (j+1)) h))).Ok (cd (n+4)):=fun j hj =>
  tX_ok (ctE_ok (noCt_ok _) (fun x hy=>by rw[← Tr.ok_some hy];exact hF (j+1) (by omega) (by omega))) (fun H=>c69 n (s+1) l k k t d g (W (j+1)) false H h hl hk ht hc (hW (j+1) (by omega) (by omega)) hh)
 have hx:=findX (n:=n+4) (f:=72) (nt:=20) (c:=part Try.f72 [1,0,1,0,0]) 0 (fun j=>fr72 s l t k d g h (.fn (.func 76) [] [.ptr 1 c1 0 0,.ptr 1 c2 0 0]) ((j+1:Nat):Int)) (fun _=>lvE::H) 39 (fun j=>canB l t (W (j+1)) h) (fun j=>([(6,.int .i64 ((j+1:Nat):Int))],lvE::H)) (fr72 s l t k d g h (.fn (.func 76) [] [.ptr 1 c1 0 0,.ptr 1 c2 0 0]) 40++[(9,.bool false)],lvE::H) (by omega) (fun j hj=>?_) ?_
 · have hr:cond (exN (fun j=>canB l t (W (j+1)) h) 39) ((fN (fun j=>canB l t (W (j+1)) h) 39 0+1:Nat):Int) 40=(leaN (fun T=>canB l t (W T) h):Nat):=by
    unfold leaN
    cases exN (fun j=>canB l t (W (j+1)) h) 39 with
    | true=>rw[if_pos rfl];rfl
    | false=>rw[if_neg (by decide)];rfl
   refine fn_all (n:=n+4) Try.func72 rfl rfl rfl (u72B (n+4) s l k c1 c2 t d g H h ((fN (fun j=>canB l t (W (j+1)) h) 39 0+1:Nat):Int) (exN (fun j=>canB l t (W (j+1)) h) 39)) (il_no0 _) (blkE_ok (noBT_ok _ _) b72 (fun x hy=>blk_ite hy hx)) (noRT_ok _ _) ?_
   rw[← hr]
   generalize ((fN (fun j=>canB l t (W (j+1)) h) 39 0+1:Nat):Int)=R at *
   generalize exN (fun j=>canB l t (W (j+1)) h) 39=B at *
   cases B
   all_goals
    simp only[cond_true,cond_false]
    repeat' first | (refine Tr.all_ite (fun hc=>?_) (fun hc=>?_)<;>(try simp (disch:=omega) only[nV,nW] at hc)<;>try omega) | (refine Tr.all_req ?_ ?_;· (try simp (disch:=omega) only[nV,nW]);try omega) | (refine Tr.all_reqP ?_ ?_;· first | exact trivial | rfl | exact ⟨rfl,rfl⟩ | exact ⟨rfl,rfl,rfl⟩ | (simp (disch:=omega) only[nV,nW];done) | ((try simp (disch:=omega) only[nV,nW]);omega)) | fail
    all_goals first
     | exact Tr.all_ok ⟨rfl,rfl⟩
     | fail
 · refine ex_all (t72B (n+4) s l k c1 c2 t d g (W (j+1)) H h ((j+1:Nat):Int) (crT l t (W (j+1)) h)) (il_ok0 _ (n+4) (hC j hj)) (noBT_ok _ _) (noRT_ok _ _) ?_
   show Tr.all _ (fun r=>if canB l t (W (j+1)) h=true then _ else _)
   obtain ⟨q1,q2⟩:=crT_can l t (W (j+1)) h
   rw[cs64 (j:=j+1) (by omega)]
   generalize crT l t (W (j+1)) h=C at *
   cases hB:canB l t (W (j+1)) h with
   | true =>
     have:=q1.2 hB
     simp only[if_true]
     repeat' first | (refine Tr.all_ite (fun hc=>?_) (fun hc=>?_)<;>(try simp (disch:=omega) only[nV,nW] at hc)<;>try omega) | (refine Tr.all_req ?_ ?_;· (try simp (disch:=omega) only[nV,nW]);try omega) | (refine Tr.all_reqP ?_ ?_;· first | exact trivial | rfl | exact ⟨rfl,rfl⟩ | exact ⟨rfl,rfl,rfl⟩ | (simp (disch:=omega) only[nV,nW];done) | ((try simp (disch:=omega) only[nV,nW]);omega)) | fail
     all_goals first
      | exact Tr.all_ok rfl
      | fail
   | false =>
     have:=q2.2 hB
     simp only[Bool.false_eq_true,if_false]
     repeat' first | (refine Tr.all_ite (fun hc=>?_) (fun hc=>?_)<;>(try simp (disch:=omega) only[nV,nW] at hc)<;>try omega) | (refine Tr.all_req ?_ ?_;· (try simp (disch:=omega) only[nV,nW]);try omega) | (refine Tr.all_reqP ?_ ?_;· first | exact trivial | rfl | exact ⟨rfl,rfl⟩ | exact ⟨rfl,rfl,rfl⟩ | (simp (disch:=omega) only[nV,nW];done) | ((try simp (disch:=omega) only[nV,nW]);omega)) | fail
     all_goals first
      | exact Tr.all_ok ⟨rfl,rfl⟩
      | fail
 · exact ex_off (t72xB (n+4) s l k c1 c2 t d g H h 40) (il_ok0 _ (n+4) (tN_ok (noCt_ok _))) (noBT_ok _ _) (noRT_ok _ _) (by first | (simp (disch:=omega) only[nV,nW];done) | (simp (disch:=omega) only[nV,nW];omega))
end
section
variable (n s l k:Nat) (c1:Nat) (t d g:Nat→Int) (H:Heap) (h:Int) (W:Nat→Nat→Int)
end
end Go.Eng
end
section
namespace Go.Eng
set_option linter.unusedVariables false
set_option linter.unusedSimpArgs false
theorem fN_is {p:Nat→Bool} {N m:Nat} (h1:m<N) (h2:p m=true) (h3:∀ i,i<m→p i=false):fN p N 0=m:=by
 obtain ⟨_,b,c,d⟩:=fN_spec p N 0
 have c:=fun i hi=>c i (Nat.zero_le i) hi
 have:fN p N 0<N:=Classical.byContradiction fun hn=>by
  have:=c m (by omega)
  rw[h2] at this;cases this
 have d:=d (by omega)
 rcases Nat.lt_trichotomy (fN p N 0) m with e | e | e
 · have:=h3 _ e;rw[d] at this;cases this
 · exact e
 · have:=c m e;rw[h2] at this;cases this
theorem lsV_congr {t e e':Nat→Int} {i l:Nat} (he:∀ j,j<l→e j=e' j) (ht:∀ j,j<l→t j<l) (hi:i<l):∀ m,(∀ q,q<m→0≤stp t q (i:Int))→lsV t e i m=lsV t e' i m
 | 0,_=>he i hi
 | m+1,hp=>by
   have h1:=hp m (by omega)
   have h2:=stp_lt ht (show (i:Int)<l by omega) m
   show min (lsV t e i m) _=min (lsV t e' i m) _
   rw[lsV_congr he ht hi m (fun q hq=>hp q (by omega)),he _ (by omega)]
theorem la_congr {l:Nat} {t e e':Nat→Int} (h:Fw l t) (he:∀ j,j<l→e j=e' j) {i:Nat} (hi:i<l):laV l t e i=laV l t e' i :=
 lsV_congr he h.tl hi _ (cyc_lv h.cyc i hi).2.1
theorem cr_congr {l:Nat} {t e e':Nat→Int} (h:Fw l t) (he:∀ j,j<l→e j=e' j) (T:Int):crN l t e T=crN l t e' T :=
 cn_congr (fun i hi=>by rw[la_congr h he hi])
theorem crB_congr {l:Nat} {t e e':Nat→Int} (h:Fw l t) (he:∀ j,j<l→e j=e' j) (hh T:Int):crB l t e hh T=crB l t e' hh T:=by
 unfold crB;rw[cr_congr h he]
theorem can_congr {l:Nat} {t e e':Nat→Int} (h:Fw l t) (he:∀ j,j<l→e j=e' j) (hh:Int):canB l t e hh=canB l t e' hh:=by
 unfold canB;rw[exN_congr (fun T _=>crB_congr h he hh T)]
theorem can_iff (l:Nat) (t e:Nat→Int) (h:Int):canB l t e h=true↔∀ T:Nat,T≤40→(crN l t e T:Int)≤h*T:=by
 unfold canB
 rw[Bool.not_eq_true']
 constructor
 · intro hx T hT
   have:=exN_not hx T (by omega)
   unfold crB at this
   rw[decide_eq_false_iff_not] at this;omega
 · intro hx
   refine exN_no (fun T hT=>?_)
   have:=hx T (by omega)
   unfold crB
   rw[decide_eq_false_iff_not];omega
theorem lea_congr {p q:Nat→Bool} (h:∀ T,1≤T→T<40→p T=q T):leaN p=leaN q:=by
 unfold leaN
 have e:exN (fun j=>p (j+1)) 39=exN (fun j=>q (j+1)) 39:=exN_congr (fun j hj=>h _ (by omega) (by omega))
 rw[e]
 by_cases c:exN (fun j=>q (j+1)) 39=true
 · rw[if_pos c,if_pos c]
   obtain ⟨_,b,c1,d⟩:=fN_spec (fun j=>q (j+1)) 39 0
   have hl:=exN_true c
   rw[fN_is (p:=fun j=>p (j+1)) hl (by rw[h _ (by omega) (by omega)];exact d (by omega)) (fun i hi=>by rw[h _ (by omega) (by omega)];exact c1 i (by omega) hi)]
 · rw[if_neg c,if_neg c]
end Go.Eng
end
