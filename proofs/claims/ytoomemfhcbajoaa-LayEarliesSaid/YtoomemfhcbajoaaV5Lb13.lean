/- Lay: hands, crowds. -/
import Derived.Test.YtoomemfhcbajoaaV5Lb11x2
namespace Go.Eng
open Go.Proofs
set_option linter.unusedVariables false
set_option linter.unusedSimpArgs false
set_option maxRecDepth 100000
noncomputable def fr70 (l:Nat) (z:Nat→Int) (h T c j:Int):Frm:=[(1,.int .i64 h),(2,.int .i64 T),(7,sl1 l z false),(8,.int .i64 c),(9,.int .i64 j)]
noncomputable def fr65 (h j:Int):Frm:=[(1,.int .i64 h),(2,.ptr 0 0 0 0),(5,.int .i64 j)]
theorem u66 (n l k:Nat) (t d g:Nat→Int) (W:Int→Int→Nat→(Nat→Int)→Bool) (h:Int) (H:Heap):bodyT Try.prog (cd n) 100000 66 Try.f66 (KtL.kt 66) (il (addCt (tX noCt 51 [shA l t k d] (.tup [tbA 0 l t k d g,.int .i64 0])) 56 (g56 W)) n 0) noBT noRT [(shA l t k d,none),(.int .i64 h,none)] H =
 (fun (Z0:AV×Option Nat)=>((fun (Z1:List AV)=>((fun (Z2:AV×Option Nat)=>Tr.reqP (Z1=Z1) (Tr.ite (notB (eqI (Int.ofNat 0) (Int.ofNat 0))) (Tr.ok ((AV.tup [AV.nilp,AV.int .i64 (Int.ofNat 0)],none),H)) (Tr.ite (ltI h (Int.ofNat 1)) (Tr.ite (notB false) (Tr.ok (Z2,H)) (Tr.ok (Z0,H))) (Tr.ite (ltI (Int.ofNat 10) h) (Tr.ite (notB false) (Tr.ok (Z2,H)) (Tr.ok (Z0,H))) (Tr.ite (notB true) (Tr.ok (Z2,H)) (Tr.ok (Z0,H))))))) (AV.tup [AV.nilp,AV.int .i64 (Int.ofNat 2)],none))) [AV.agg (Row.G [AV.slcT none (Row.M [Seg.arr .i64 t l]) 1 l false,AV.slcT none (Row.M [Seg.arr .i64 d k]) 1 k false])])) (AV.tup [AV.ptrT (some 0) (Row.M [Seg.one (AV.slcT none (Row.M [Seg.arr .i64 t l]) 1 l false),Seg.one (AV.slcT none (Row.M [Seg.arr .i64 d k]) 1 k false),Seg.arr .i64 g 30]) 0,AV.int .i64 (Int.ofNat 0)],none):=by kernel_rfl
theorem u66s (n l k:Nat) (t d:Nat→Int) (e h:Int) (H:Heap):bodyT Try.prog (cd n) 100000 66 Try.f66 (KtL.kt 66) (il (tX noCt 51 [shA l t k d] (.tup [.nilp,.int .i64 e])) n 0) noBT noRT [(shA l t k d,none),(.int .i64 h,none)] H =
 (fun (Z0:List AV)=>Tr.reqP (Z0=Z0) (Tr.ite (notB (eqI e (Int.ofNat 0))) (Tr.ok ((AV.tup [AV.nilp,AV.int .i64 e],none),H)) Tr.bad)) [AV.agg (Row.G [AV.slcT none (Row.M [Seg.arr .i64 t l]) 1 l false,AV.slcT none (Row.M [Seg.arr .i64 d k]) 1 k false])]:=by kernel_rfl
theorem u64 (n l k:Nat) (t d:Nat→Int) (e h:Int) (H:Heap):bodyT Try.prog (cd n) 100000 64 Try.f64 (KtL.kt 64) (il (tX noCt 22 [shA l t k d] (.int .i64 e)) n 0) noBT noRT [(shA l t k d,none),(.int .i64 h,none)] H =
 (fun (Z0:List AV)=>Tr.reqP (Z0=Z0) (Tr.ite (notB (eqI e (Int.ofNat 0))) (Tr.reqP (Z0=Z0) (Tr.ok ((AV.int .i64 e,none),H))) (Tr.ite (ltI h (Int.ofNat 1)) (Tr.ok ((AV.int .i64 (Int.ofNat 2),some 1),H)) (Tr.ite (ltI (Int.ofNat 10) h) (Tr.ok ((AV.int .i64 (Int.ofNat 2),some 1),H)) (Tr.ok ((AV.int .i64 (Int.ofNat 0),some 1),H)))))) [AV.agg (Row.G [AV.slcT none (Row.M [Seg.arr .i64 t l]) 1 l false,AV.slcT none (Row.M [Seg.arr .i64 d k]) 1 k false])]:=by kernel_rfl
theorem t70 (n l k:Nat) (z:Nat→Int) (t d:Nat→Int) (H:Heap) (h T c j:Int):execT (cxD n 70 31) (il noCt n 0) noBT noRT (part Try.f70 [1,1,1,0,1,0,0]) (hints (fr70 l z h T c j)) (lvO0 l t k d::H) =
 (fun (Z0:Lvl)=>((fun (Z1:Nat×AV×Option Nat)=>Tr.ite (ltI j (Int.ofNat l)) (Tr.req (inI j l) (Tr.req (ltN (idO 0 j 1) l) (Tr.ite (leI (z (idO 0 j 1)) T) (Tr.ok (Ex.normal,[(1,AV.int .i64 h,none),(2,AV.int .i64 T,none),Z1,(8,AV.int .i64 (addI .i64 c (Int.ofNat 1)),none),(9,AV.int .i64 (addI .i64 j (Int.ofNat 1)),none)],Z0::H)) (Tr.ok (Ex.normal,[(1,AV.int .i64 h,none),(2,AV.int .i64 T,none),Z1,(8,AV.int .i64 c,none),(9,AV.int .i64 (addI .i64 j (Int.ofNat 1)),none)],Z0::H))))) (Tr.ok (Ex.exit 0,[(1,AV.int .i64 h,none),(2,AV.int .i64 T,none),Z1,(8,AV.int .i64 c,none),(9,AV.int .i64 j,none),(15,AV.bool false,some 1)],Z0::H))) (7,AV.slcT none (Row.M [Seg.arr .i64 z l]) 1 l false,none))) { lock:=false,bs:=[(0,Blk.row (Row.G [AV.slcT none (Row.M [Seg.arr .i64 t l]) 1 l false,AV.slcT none (Row.M [Seg.arr .i64 d k]) 1 k false]))] }:=by kernel_rfl
theorem u70 (n l k:Nat) (z:Nat→Int) (t d:Nat→Int) (H:Heap) (h T c:Int):bodyT Try.prog (cd n) 100000 70 Try.f70 (KtL.kt 70) (il (tX noCt 55 [shA l t k d] (sl1 l z false)) n 0) (blkE noBT 0 (fr70 l z h T 0 0) (lvO0 l t k d::H) (.ok (.normal,hints (fr70 l z h T c (Int.ofNat l)++[(15,.bool false)]),lvO0 l t k d::H))) noRT [(shA l t k d,none),(.int .i64 h,none),(.int .i64 T,none)] H =
 (fun (Z0:Row)=>((fun (Z1:Frm)=>Tr.reqP ([AV.agg Z0]=[AV.agg Z0]) (Tr.reqP (Z1=Z1∧{ lock:=false,bs:=[(0,Blk.row Z0)] } :: H={ lock:=false,bs:=[(0,Blk.row Z0)] } :: H) (Tr.ok ((AV.bool (ltI (mulI .i64 h T) c),none),H)))) [(1,AV.int .i64 h),(2,AV.int .i64 T),(7,AV.slcT none (Row.M [Seg.arr .i64 z l]) 1 l false),(8,AV.int .i64 (Int.ofNat 0)),(9,AV.int .i64 (Int.ofNat 0))])) (Row.G [AV.slcT none (Row.M [Seg.arr .i64 t l]) 1 l false,AV.slcT none (Row.M [Seg.arr .i64 d k]) 1 k false]):=by kernel_rfl
theorem t65 (n l k:Nat) (t d:Nat→Int) (H:Heap) (h j:Int) (b:Bool):execT (cxD n 65 14) (il (tX noCt 70 [shA l t k d,.int .i64 h,.int .i64 j] (.bool b)) n 0) noBT noRT (part Try.f65 [1,0,1,0,0]) (hints (fr65 h j)) (lvO0 l t k d::H) =
 (fun (Z0:Row)=>Tr.ite (leI j (Int.ofNat 40)) (Tr.reqP ([AV.agg Z0,AV.int .i64 h,AV.int .i64 j]=[AV.agg Z0,AV.int .i64 h,AV.int .i64 j]) (Tr.ite b (Tr.ok (Ex.ret,[(4,AV.bool false,some 1)],{ lock:=false,bs:=[(0,Blk.row Z0)] } :: H)) (Tr.ok (Ex.normal,[(1,AV.int .i64 h,none),(2,AV.ptr 0 0 0 0,none),(5,AV.int .i64 (addI .i64 j (Int.ofNat 1)),none)],{ lock:=false,bs:=[(0,Blk.row Z0)] } :: H)))) (Tr.ok (Ex.exit 0,[(1,AV.int .i64 h,none),(2,AV.ptr 0 0 0 0,none),(5,AV.int .i64 j,none),(7,AV.bool false,some 1)],{ lock:=false,bs:=[(0,Blk.row Z0)] } :: H))) (Row.G [AV.slcT none (Row.M [Seg.arr .i64 t l]) 1 l false,AV.slcT none (Row.M [Seg.arr .i64 d k]) 1 k false]):=by kernel_rfl
theorem u65 (n l k:Nat) (t d:Nat→Int) (H:Heap) (h:Int) (b:Bool):bodyT Try.prog (cd n) 100000 65 Try.f65 (KtL.kt 65) (il noCt n 0) (blkE noBT 0 (fr65 h 0) (lvO0 l t k d::H) (.ite b (.ok (.ret,[(4,.bool false,some 1)],lvO0 l t k d::H)) (.ok (.normal,hints (fr65 h 41++[(7,.bool false)]),lvO0 l t k d::H)))) noRT [(shA l t k d,none),(.int .i64 h,none)] H =
 (fun (Z0:Lvl)=>Tr.reqP ([(1,AV.int .i64 h),(2,AV.ptr 0 0 0 0),(5,AV.int .i64 (Int.ofNat 0))]=[(1,AV.int .i64 h),(2,AV.ptr 0 0 0 0),(5,AV.int .i64 (Int.ofNat 0))]∧Z0::H=Z0::H) (Tr.ite b (Tr.ok ((AV.bool false,some 1),H)) (Tr.ok ((AV.bool true,some 1),H)))) { lock:=false,bs:=[(0,Blk.row (Row.G [AV.slcT none (Row.M [Seg.arr .i64 t l]) 1 l false,AV.slcT none (Row.M [Seg.arr .i64 d k]) 1 k false]))] }:=by kernel_rfl
theorem u28 (n l k:Nat) (t d:Nat→Int) (H:Heap) (h e:Int) (b:Bool):bodyT Try.prog (cd n) 100000 28 Try.f28 (KtL.kt 28) (il (tX (tX noCt 64 [shA l t k d,.int .i64 h] (.int .i64 e)) 65 [shA l t k d,.int .i64 h] (.bool b)) n 0) noBT noRT [(shA l t k d,none),(.int .i64 h,none)] H =
 (fun (Z0:List AV)=>Tr.reqP (Z0=Z0) (Tr.ite (notB (eqI e (Int.ofNat 0))) (Tr.reqP (Z0=Z0) (Tr.ok ((AV.int .i64 e,none),H))) (Tr.reqP (Z0=Z0) (Tr.ite (notB b) (Tr.ok ((AV.int .i64 (Int.ofNat 13),some 1),H)) (Tr.ok ((AV.int .i64 (Int.ofNat 0),some 1),H)))))) [AV.agg (Row.G [AV.slcT none (Row.M [Seg.arr .i64 t l]) 1 l false,AV.slcT none (Row.M [Seg.arr .i64 d k]) 1 k false]),AV.int .i64 h]:=by kernel_rfl
theorem u28s (n l k:Nat) (t d:Nat→Int) (H:Heap) (h e:Int):bodyT Try.prog (cd n) 100000 28 Try.f28 (KtL.kt 28) (il (tX noCt 64 [shA l t k d,.int .i64 h] (.int .i64 e)) n 0) noBT noRT [(shA l t k d,none),(.int .i64 h,none)] H =
 (fun (Z0:List AV)=>Tr.reqP (Z0=Z0) (Tr.ite (notB (eqI e (Int.ofNat 0))) (Tr.reqP (Z0=Z0) (Tr.ok ((AV.int .i64 e,none),H))) Tr.bad)) [AV.agg (Row.G [AV.slcT none (Row.M [Seg.arr .i64 t l]) 1 l false,AV.slcT none (Row.M [Seg.arr .i64 d k]) 1 k false]),AV.int .i64 h]:=by kernel_rfl
theorem u61 (n l k:Nat) (t d g:Nat→Int) (H:Heap) (h a c:Int):bodyT Try.prog (cd n) 100000 61 Try.f61 (KtL.kt 61) (il (tX (tX noCt 66 [shA l t k d,.int .i64 h] (.tup [tbA 0 l t k d g,.int .i64 0])) 69 [tbA 0 l t k d g,sl1 k d false,.int .i64 h] (.int .i64 c)) n 0) noBT noRT [(shA l t k d,none),(.int .i64 h,none),(.int .i64 a,none)] H =
 (fun (Z0:Row)=>((fun (Z1:List AV)=>((fun (Z2:List AV)=>Tr.reqP (Z1=Z1) (Tr.ite (notB (eqI (Int.ofNat 0) (Int.ofNat 0))) (Tr.ok ((AV.tup [AV.nilp,AV.int .i64 (Int.ofNat 0)],none),H)) (Tr.ite (notB (eqI a (Int.ofNat 0))) (Tr.ok ((AV.tup [AV.nilp,AV.int .i64 a],none),H)) (Tr.reqP (Z2=Z2) (Tr.ite (leI (Int.ofNat 0) c) (Tr.ok ((AV.tup [AV.nilp,AV.int .i64 (Int.ofNat 13)],none),H)) (Tr.ok ((AV.tup [AV.ptrT (some 0) Z0 0,AV.int .i64 (Int.ofNat 0)],none),H))))))) [AV.ptrT (some 0) Z0 0,AV.slcT none (Row.M [Seg.arr .i64 d k]) 1 k false,AV.int .i64 h])) [AV.agg (Row.G [AV.slcT none (Row.M [Seg.arr .i64 t l]) 1 l false,AV.slcT none (Row.M [Seg.arr .i64 d k]) 1 k false]),AV.int .i64 h])) (Row.M [Seg.one (AV.slcT none (Row.M [Seg.arr .i64 t l]) 1 l false),Seg.one (AV.slcT none (Row.M [Seg.arr .i64 d k]) 1 k false),Seg.arr .i64 g 30]):=by kernel_rfl
theorem u61s (n l k:Nat) (t d:Nat→Int) (H:Heap) (h a e:Int):bodyT Try.prog (cd n) 100000 61 Try.f61 (KtL.kt 61) (il (tX noCt 66 [shA l t k d,.int .i64 h] (.tup [.nilp,.int .i64 e])) n 0) noBT noRT [(shA l t k d,none),(.int .i64 h,none),(.int .i64 a,none)] H =
 (fun (Z0:List AV)=>Tr.reqP (Z0=Z0) (Tr.ite (notB (eqI e (Int.ofNat 0))) (Tr.ok ((AV.tup [AV.nilp,AV.int .i64 e],none),H)) (Tr.ite (notB (eqI a (Int.ofNat 0))) (Tr.ok ((AV.tup [AV.nilp,AV.int .i64 a],none),H)) Tr.bad))) [AV.agg (Row.G [AV.slcT none (Row.M [Seg.arr .i64 t l]) 1 l false,AV.slcT none (Row.M [Seg.arr .i64 d k]) 1 k false]),AV.int .i64 h]:=by kernel_rfl
theorem b70:∀ b,(0,b) ∈ blocksOf (bodyOf Try.f70)→b=.loop (part Try.f70 [1,1,1,0,1,0,0]):=by
 have:((blocksOf (bodyOf Try.f70)).filter fun x=>Nat.beq x.1 0)=[(0,.loop (part Try.f70 [1,1,1,0,1,0,0]))]:=by kernel_rfl
 intro b hb
 have hm:(0,b) ∈ ((blocksOf (bodyOf Try.f70)).filter fun x=>Nat.beq x.1 0):=List.mem_filter.2 ⟨hb,rfl⟩
 rw[this] at hm;simpa using hm
theorem b65:∀ b,(0,b) ∈ blocksOf (bodyOf Try.f65)→b=.loop (part Try.f65 [1,0,1,0,0]):=by
 have:((blocksOf (bodyOf Try.f65)).filter fun x=>Nat.beq x.1 0)=[(0,.loop (part Try.f65 [1,0,1,0,0]))]:=by kernel_rfl
 intro b hb
 have hm:(0,b) ∈ ((blocksOf (bodyOf Try.f65)).filter fun x=>Nat.beq x.1 0):=List.mem_filter.2 ⟨hb,rfl⟩
 rw[this] at hm;simpa using hm
theorem ex_off {n f nt:Nat} {c:Code} {callR:CallTr} {bl:BlkT} {rg:RgT} {fr:Frm} {H:Heap} {b:Bool} {A:Tr Res} {y:Res} (e:execT (cxD n f nt) callR bl rg c (hints fr) H=.ite b A (.ok y)) (hC:callR.Ok (cd n)) (hB:bl.Ok (cxD n f nt) c) (hR:rg.Ok (cxD n f nt) c) (hb:b=false):exec (cxD n f nt) c fr H=some y.st:=by
 obtain ⟨x,h1,rfl⟩:=ex_all (Q:=fun x=>x=y.st) e hC hB hR (Tr.all_ite (fun h=>by rw[hb] at h;cases h) (fun _=>Tr.all_ok rfl))
 exact h1
def askE (l:Nat) (t:Nat→Int) (k:Nat) (d:Nat→Int) (h:Int):Int:=if shE l t k d=0 then (if h<1∨10<h then 2 else 0) else shE l t k d
theorem ask_of {l k:Nat} {t d:Nat→Int} {h:Int} (e:askE l t k d h=0):Sh l t k d∧1≤h∧h≤10:=by
 unfold askE at e
 by_cases c:shE l t k d=0
 · rw[if_pos c] at e
   refine ⟨sh_of c,?_⟩
   by_cases c2:h<1∨10<h
   · rw[if_pos c2] at e;omega
   · omega
 · rw[if_neg c] at e;exact absurd e c
def canB (l:Nat) (t e:Nat→Int) (h:Int):Bool:=!exN (fun T=>crB l t e h (T:Nat)) 41
theorem crT_can (l:Nat) (t e:Nat→Int) (h:Int):(crT l t e h<0↔canB l t e h=true)∧(0≤crT l t e h↔canB l t e h=false):=by
 unfold crT ixF canB
 cases exN (fun T:Nat=>crB l t e h (T:Nat)) 41 with
 | true=>rw[if_pos rfl];constructor<;>simp<;>omega
 | false=>rw[if_neg (by decide)];constructor<;>simp
section
variable (n l k:Nat) (t d:Nat→Int) (H:Heap) (h:Int)
theorem c66 (e:askE l t k d h=0):cd (n+10) (.fn 66) [shA l t k d,.int .i64 h] H=some (.tup [tbS 0 l t k d,.int .i64 0],H):=by
 obtain ⟨hs,h1,h2⟩:=ask_of e
 refine fn_all (n:=n+9) Try.func66 rfl rfl rfl (u66 (n+9) l k t d (ldF t l) W56 h H) (il_ok0 _ (n+9) (g56_ok (c:=n+3) (tX_ok (noCt_ok _) (fun H=>c51 (n+1) l k t d H hs)))) (noBT_ok _ _) (noRT_ok _ _) ?_
 unfold tbS
 generalize ldF t l=g at *
 repeat' first | (refine Tr.all_ite (fun hc=>?_) (fun hc=>?_)<;>(try simp (disch:=omega) only[nV,nW] at hc)<;>try omega) | (refine Tr.all_req ?_ ?_;· (try simp (disch:=omega) only[nV,nW]);try omega) | (refine Tr.all_reqP ?_ ?_;· first | exact trivial | rfl | exact ⟨rfl,rfl⟩ | exact ⟨rfl,rfl,rfl⟩ | (simp (disch:=omega) only[nV,nW];done) | ((try simp (disch:=omega) only[nV,nW]);omega)) | fail
 all_goals first
  | exact Tr.all_ok ⟨rfl,rfl⟩
  | fail
theorem c66e (e:askE l t k d h≠0):cd (n+10) (.fn 66) [shA l t k d,.int .i64 h] H=some (.tup [.nilp,.int .i64 (askE l t k d h)],H):=by
 by_cases c:shE l t k d=0
 · have hs:=sh_of c
   have ea:askE l t k d h=if h<1∨10<h then 2 else 0:=by unfold askE;rw[if_pos c]
   by_cases c2:h<1∨10<h
   · rw[ea,if_pos c2]
     refine fn_all (n:=n+9) Try.func66 rfl rfl rfl (u66 (n+9) l k t d (ldF t l) W56 h H) (il_ok0 _ (n+9) (g56_ok (c:=n+3) (tX_ok (noCt_ok _) (fun H=>c51 (n+1) l k t d H hs)))) (noBT_ok _ _) (noRT_ok _ _) ?_
     generalize ldF t l=g at *
     repeat' first | (refine Tr.all_ite (fun hc=>?_) (fun hc=>?_)<;>(try simp (disch:=omega) only[nV,nW] at hc)<;>try omega) | (refine Tr.all_req ?_ ?_;· (try simp (disch:=omega) only[nV,nW]);try omega) | (refine Tr.all_reqP ?_ ?_;· first | exact trivial | rfl | exact ⟨rfl,rfl⟩ | exact ⟨rfl,rfl,rfl⟩ | (simp (disch:=omega) only[nV,nW];done) | ((try simp (disch:=omega) only[nV,nW]);omega)) | fail
     all_goals first
      | exact Tr.all_ok ⟨rfl,rfl⟩
      | fail
   · rw[ea,if_neg c2] at e;exact absurd rfl e
 · have ea:askE l t k d h=shE l t k d:=by unfold askE;rw[if_neg c]
   rw[ea]
   refine fn_all (n:=n+9) Try.func66 rfl rfl rfl (u66s (n+9) l k t d (shE l t k d) h H) (il_ok0 _ (n+9) (tX_ok (noCt_ok _) (fun H=>c51e (n+1) l k t d H c))) (noBT_ok _ _) (noRT_ok _ _) ?_
   generalize shE l t k d=e at *
   repeat' first | (refine Tr.all_ite (fun hc=>?_) (fun hc=>?_)<;>(try simp (disch:=omega) only[nV,nW] at hc)<;>try omega) | (refine Tr.all_req ?_ ?_;· (try simp (disch:=omega) only[nV,nW]);try omega) | (refine Tr.all_reqP ?_ ?_;· first | exact trivial | rfl | exact ⟨rfl,rfl⟩ | exact ⟨rfl,rfl,rfl⟩ | (simp (disch:=omega) only[nV,nW];done) | ((try simp (disch:=omega) only[nV,nW]);omega)) | fail
   all_goals first
    | exact Tr.all_ok ⟨rfl,rfl⟩
    | fail
theorem c64:cd (n+3) (.fn 64) [shA l t k d,.int .i64 h] H=some (.int .i64 (askE l t k d h),H):=by
 refine fn_all (n:=n+2) Try.func64 rfl rfl rfl (u64 (n+2) l k t d (shE l t k d) h H) (il_ok0 _ (n+2) (tX_ok (noCt_ok _) (fun H=>c22 n l k t d H))) (noBT_ok _ _) (noRT_ok _ _) ?_
 have ea:askE l t k d h=if shE l t k d=0 then (if h<1∨10<h then 2 else 0) else shE l t k d:=rfl
 rw[ea]
 generalize shE l t k d=e at *
 by_cases c:e=0
 · rw [if_pos c]
   by_cases c2:h<1∨10<h
   · rw[if_pos c2]
     repeat' first | (refine Tr.all_ite (fun hc=>?_) (fun hc=>?_)<;>(try simp (disch:=omega) only[nV,nW] at hc)<;>try omega) | (refine Tr.all_req ?_ ?_;· (try simp (disch:=omega) only[nV,nW]);try omega) | (refine Tr.all_reqP ?_ ?_;· first | exact trivial | rfl | exact ⟨rfl,rfl⟩ | exact ⟨rfl,rfl,rfl⟩ | (simp (disch:=omega) only[nV,nW];done) | ((try simp (disch:=omega) only[nV,nW]);omega)) | fail
     all_goals first
      | exact Tr.all_ok ⟨rfl,rfl⟩
      | fail
   · rw[if_neg c2]
     repeat' first | (refine Tr.all_ite (fun hc=>?_) (fun hc=>?_)<;>(try simp (disch:=omega) only[nV,nW] at hc)<;>try omega) | (refine Tr.all_req ?_ ?_;· (try simp (disch:=omega) only[nV,nW]);try omega) | (refine Tr.all_reqP ?_ ?_;· first | exact trivial | rfl | exact ⟨rfl,rfl⟩ | exact ⟨rfl,rfl,rfl⟩ | (simp (disch:=omega) only[nV,nW];done) | ((try simp (disch:=omega) only[nV,nW]);omega)) | fail
     all_goals first
      | exact Tr.all_ok ⟨rfl,rfl⟩
      | fail
 · rw[if_neg c]
   repeat' first | (refine Tr.all_ite (fun hc=>?_) (fun hc=>?_)<;>(try simp (disch:=omega) only[nV,nW] at hc)<;>try omega) | (refine Tr.all_req ?_ ?_;· (try simp (disch:=omega) only[nV,nW]);try omega) | (refine Tr.all_reqP ?_ ?_;· first | exact trivial | rfl | exact ⟨rfl,rfl⟩ | exact ⟨rfl,rfl,rfl⟩ | (simp (disch:=omega) only[nV,nW];done) | ((try simp (disch:=omega) only[nV,nW]);omega)) | fail
   all_goals first
    | exact Tr.all_ok ⟨rfl,rfl⟩
    | fail
theorem l70 (z:Nat→Int) (T:Int) (hl:l≤30):exec (cxD n 70 31) (.block 0 (.loop (part Try.f70 [1,1,1,0,1,0,0]))) (fr70 l z h T 0 0) (lvO0 l t k d::H)=some (.normal,fr70 l z h T (cn (fun i=>decide (z i≤T)) l:Nat) (Int.ofNat l)++[(15,.bool false)],lvO0 l t k d::H):=by
 refine forX (n:=n) (f:=70) (nt:=31) (c:=part Try.f70 [1,1,1,0,1,0,0]) 0 (fun j=>fr70 l z h T (cn (fun i=>decide (z i≤T)) j:Nat) (j:Nat)) (fun _=>lvO0 l t k d::H) l _ (by omega) (fun j hj=>?_) ?_
 · refine ex_all (t70 n l k z t d H h T (cn (fun i=>decide (z i≤T)) j:Nat) (j:Nat)) (il_no0 n) (noBT_ok _ _) (noRT_ok _ _) ?_
   have hle:=cn_le (fun i=>decide (z i≤T)) j
   show Tr.all _ (fun r=>_∧tidy _ _ _=(fr70 l z h T ((cn (fun i=>decide (z i≤T)) j+(decide (z j≤T)).toNat:Nat):Int) ((j+1:Nat):Int),_))
   rw[cs64 (j:=j) (by omega),cs64 (by omega)]
   simp only[id1]
   generalize cn (fun i=>decide (z i≤T)) j=C at *
   generalize z j=q at *
   by_cases c:q≤T
   · rw[decide_eq_true c]
     repeat' first | (refine Tr.all_ite (fun hc=>?_) (fun hc=>?_)<;>(try simp (disch:=omega) only[nV,nW] at hc)<;>try omega) | (refine Tr.all_req ?_ ?_;· (try simp (disch:=omega) only[nV,nW]);try omega) | (refine Tr.all_reqP ?_ ?_;· first | exact trivial | rfl | exact ⟨rfl,rfl⟩ | exact ⟨rfl,rfl,rfl⟩ | (simp (disch:=omega) only[nV,nW];done) | ((try simp (disch:=omega) only[nV,nW]);omega)) | fail
     all_goals first
      | exact Tr.all_ok ⟨rfl,rfl⟩
      | fail
   · rw[decide_eq_false c]
     repeat' first | (refine Tr.all_ite (fun hc=>?_) (fun hc=>?_)<;>(try simp (disch:=omega) only[nV,nW] at hc)<;>try omega) | (refine Tr.all_req ?_ ?_;· (try simp (disch:=omega) only[nV,nW]);try omega) | (refine Tr.all_reqP ?_ ?_;· first | exact trivial | rfl | exact ⟨rfl,rfl⟩ | exact ⟨rfl,rfl,rfl⟩ | (simp (disch:=omega) only[nV,nW];done) | ((try simp (disch:=omega) only[nV,nW]);omega)) | fail
     all_goals first
      | exact Tr.all_ok ⟨rfl,rfl⟩
      | fail
 · exact ex_off (t70 n l k z t d H h T (cn (fun i=>decide (z i≤T)) l:Nat) (Int.ofNat l)) (il_no0 n) (noBT_ok _ _) (noRT_ok _ _) (by first | (simp (disch:=omega) only[nV,nW];done) | (simp (disch:=omega) only[nV,nW];omega))
theorem c70 (e:Fw l t) (h0:0<l) (hk:k=l) (hb:Bd l d) (T:Int) (hh:-1000≤h*T∧h*T≤1000000):cd (n+2) (.fn 70) [shA l t k d,.int .i64 h,.int .i64 T] H=some (.bool (crB l t d h T),H):=by
 have hx:=l70 (n+1) l k t d H h (lstO (faN (fun i=>laV l t d i) l)) T e.l30
 rw[cn_congr (q:=fun i=>decide (laV l t d i≤T)) (fun j hj=>by rw[faN_at _ hj])] at hx
 refine fn_all (n:=n+1) Try.func70 rfl rfl rfl (u70 (n+1) l k (lstO (faN (fun i=>laV l t d i) l)) t d H h T (crN l t d T:Nat)) (il_ok0 _ (n+1) (tX_ok (noCt_ok _) (fun H=>c55 n l k t d H e h0 hk hb))) (blkE_ok (noBT_ok _ _) b70 (fun x hy=>blk_ok hy hx)) (noRT_ok _ _) ?_
 have em:mulI .i64 h T=h*T:=by rw[mulI_eq];exact wr_64 (by omega) (by omega)
 rw[em,ltI_eq]
 unfold crB
 generalize lstO (faN (fun i=>laV l t d i) l)=z at *
 repeat' first | (refine Tr.all_ite (fun hc=>?_) (fun hc=>?_)<;>(try simp (disch:=omega) only[nV,nW] at hc)<;>try omega) | (refine Tr.all_req ?_ ?_;· (try simp (disch:=omega) only[nV,nW]);try omega) | (refine Tr.all_reqP ?_ ?_;· first | exact trivial | rfl | exact ⟨rfl,rfl⟩ | exact ⟨rfl,rfl,rfl⟩ | (simp (disch:=omega) only[nV,nW];done) | ((try simp (disch:=omega) only[nV,nW]);omega)) | fail
 all_goals first
  | exact Tr.all_ok ⟨rfl,rfl⟩
  | fail
theorem c65 (e:Fw l t) (h0:0<l) (hk:k=l) (hb:Bd l d) (hh:0≤h∧h≤1000):cd (n+3) (.fn 65) [shA l t k d,.int .i64 h] H=some (.bool (canB l t d h),H):=by
 have hx:=findX (n:=n+2) (f:=65) (nt:=14) (c:=part Try.f65 [1,0,1,0,0]) 0 (fun j=>fr65 h (j:Nat)) (fun _=>lvO0 l t k d::H) 41 (fun T=>crB l t d h (T:Nat)) (fun j=>([(4,.bool false)],lvO0 l t k d::H)) (fr65 h 41++[(7,.bool false)],lvO0 l t k d::H) (by omega) (fun j hj=>?_) ?_
 · refine fn_all (n:=n+2) Try.func65 rfl rfl rfl (u65 (n+2) l k t d H h (exN (fun T=>crB l t d h (T:Nat)) 41)) (il_no0 _) (blkE_ok (noBT_ok _ _) b65 (fun x hy=>blk_ite hy hx)) (noRT_ok _ _) ?_
   unfold canB
   generalize exN (fun T:Nat=>crB l t d h (T:Nat)) 41=B at *
   cases B
   all_goals
    repeat' first | (refine Tr.all_ite (fun hc=>?_) (fun hc=>?_)<;>(try simp (disch:=omega) only[nV,nW] at hc)<;>try omega) | (refine Tr.all_req ?_ ?_;· (try simp (disch:=omega) only[nV,nW]);try omega) | (refine Tr.all_reqP ?_ ?_;· first | exact trivial | rfl | exact ⟨rfl,rfl⟩ | exact ⟨rfl,rfl,rfl⟩ | (simp (disch:=omega) only[nV,nW];done) | ((try simp (disch:=omega) only[nV,nW]);omega)) | fail
    all_goals first
     | exact Tr.all_ok ⟨rfl,rfl⟩
     | fail
 · have hm:0≤h*(j:Nat):=Int.mul_nonneg hh.1 (by omega)
   have hm2:h*(j:Nat)≤1000*1000:=Int.mul_le_mul hh.2 (by omega) (by omega) (by omega)
   refine ex_all (t65 (n+2) l k t d H h (j:Nat) (crB l t d h (j:Nat))) (il_ok0 _ (n+2) (tX_ok (noCt_ok _) (fun H=>c70 n l k t d H h e h0 hk hb (j:Nat) (by omega)))) (noBT_ok _ _) (noRT_ok _ _) ?_
   show Tr.all _ (fun r=>if crB l t d h (j:Nat)=true then _ else _)
   rw[cs64 (j:=j) (by omega)]
   generalize crB l t d h (j:Nat)=B at *
   cases B with
   | true =>
     simp only[if_true]
     repeat' first | (refine Tr.all_ite (fun hc=>?_) (fun hc=>?_)<;>(try simp (disch:=omega) only[nV,nW] at hc)<;>try omega) | (refine Tr.all_req ?_ ?_;· (try simp (disch:=omega) only[nV,nW]);try omega) | (refine Tr.all_reqP ?_ ?_;· first | exact trivial | rfl | exact ⟨rfl,rfl⟩ | exact ⟨rfl,rfl,rfl⟩ | (simp (disch:=omega) only[nV,nW];done) | ((try simp (disch:=omega) only[nV,nW]);omega)) | fail
     all_goals first
      | exact Tr.all_ok rfl
      | fail
   | false =>
     simp only[Bool.false_eq_true,if_false]
     repeat' first | (refine Tr.all_ite (fun hc=>?_) (fun hc=>?_)<;>(try simp (disch:=omega) only[nV,nW] at hc)<;>try omega) | (refine Tr.all_req ?_ ?_;· (try simp (disch:=omega) only[nV,nW]);try omega) | (refine Tr.all_reqP ?_ ?_;· first | exact trivial | rfl | exact ⟨rfl,rfl⟩ | exact ⟨rfl,rfl,rfl⟩ | (simp (disch:=omega) only[nV,nW];done) | ((try simp (disch:=omega) only[nV,nW]);omega)) | fail
     all_goals first
      | exact Tr.all_ok ⟨rfl,rfl⟩
      | fail
 · exact ex_off (t65 (n+2) l k t d H h 41 (crB l t d h 41)) (il_ok0 _ (n+2) (tX_ok (noCt_ok _) (fun H=>c70 n l k t d H h e h0 hk hb 41 (by omega)))) (noBT_ok _ _) (noRT_ok _ _) (by first | (simp (disch:=omega) only[nV,nW];done) | (simp (disch:=omega) only[nV,nW];omega))
def needE:Int:=if askE l t k d h=0 then (if canB l t d h=true then 0 else 13) else askE l t k d h
theorem need_of {l k:Nat} {t d:Nat→Int} {h:Int} (e:needE l k t d h=0):askE l t k d h=0∧canB l t d h=true:=by
 unfold needE at e
 by_cases c:askE l t k d h=0
 · rw[if_pos c] at e
   refine ⟨c,?_⟩
   by_cases c2:canB l t d h=true
   · exact c2
   · rw[if_neg c2] at e;omega
 · rw[if_neg c] at e;exact absurd e c
theorem c28:cd (n+4) (.fn 28) [shA l t k d,.int .i64 h] H=some (.int .i64 (needE l k t d h),H):=by
 by_cases c:askE l t k d h=0
 · obtain ⟨hs,h1,h2⟩:=ask_of c
   have:=hs.l1
   have en:needE l k t d h=if canB l t d h=true then 0 else 13:=by unfold needE;rw[if_pos c]
   rw[en]
   refine fn_all (n:=n+3) Try.func28 rfl rfl rfl (u28 (n+3) l k t d H h 0 (canB l t d h)) (il_ok0 _ (n+3) (tX_ok (tX_ok (noCt_ok _) (fun H=>by rw[c64,c])) (fun H=>c65 n l k t d H h hs.fw (by omega) hs.kl hs.bd (by omega)))) (noBT_ok _ _) (noRT_ok _ _) ?_
   generalize canB l t d h=B at *
   cases B
   all_goals
    repeat' first | (refine Tr.all_ite (fun hc=>?_) (fun hc=>?_)<;>(try simp (disch:=omega) only[nV,nW] at hc)<;>try omega) | (refine Tr.all_req ?_ ?_;· (try simp (disch:=omega) only[nV,nW]);try omega) | (refine Tr.all_reqP ?_ ?_;· first | exact trivial | rfl | exact ⟨rfl,rfl⟩ | exact ⟨rfl,rfl,rfl⟩ | (simp (disch:=omega) only[nV,nW];done) | ((try simp (disch:=omega) only[nV,nW]);omega)) | fail
    all_goals first
     | exact Tr.all_ok ⟨rfl,rfl⟩
     | fail
 · have en:needE l k t d h=askE l t k d h:=by unfold needE;rw[if_neg c]
   rw[en]
   refine fn_all (n:=n+3) Try.func28 rfl rfl rfl (u28s (n+3) l k t d H h (askE l t k d h)) (il_ok0 _ (n+3) (tX_ok (noCt_ok _) (fun H=>c64 n l k t d H h))) (noBT_ok _ _) (noRT_ok _ _) ?_
   generalize askE l t k d h=e at *
   repeat' first | (refine Tr.all_ite (fun hc=>?_) (fun hc=>?_)<;>(try simp (disch:=omega) only[nV,nW] at hc)<;>try omega) | (refine Tr.all_req ?_ ?_;· (try simp (disch:=omega) only[nV,nW]);try omega) | (refine Tr.all_reqP ?_ ?_;· first | exact trivial | rfl | exact ⟨rfl,rfl⟩ | exact ⟨rfl,rfl,rfl⟩ | (simp (disch:=omega) only[nV,nW];done) | ((try simp (disch:=omega) only[nV,nW]);omega)) | fail
   all_goals first
    | exact Tr.all_ok ⟨rfl,rfl⟩
    | fail
theorem c61 (a:Int) (e:askE l t k d h=0):cd (n+11) (.fn 61) [shA l t k d,.int .i64 h,.int .i64 a] H=some (if a=0 then (if canB l t d h=true then .tup [tbS 0 l t k d,.int .i64 0] else .tup [.nilp,.int .i64 13]) else .tup [.nilp,.int .i64 a],H):=by
 obtain ⟨hs,h1,h2⟩:=ask_of e
 refine fn_all (n:=n+10) Try.func61 rfl rfl rfl (u61 (n+10) l k t d (ldF t l) H h a (crT l t d h)) (il_ok0 _ (n+10) (tX_ok (tX_ok (noCt_ok _) (fun H=>c66 n l k t d H h e)) (fun H=>c69 (n+6) 0 l k k t d _ d false H h hs.l30 hs.kl hs.tl hs.cyc hs.bd (by omega)))) (noBT_ok _ _) (noRT_ok _ _) ?_
 obtain ⟨q1,q2⟩:=crT_can l t d h
 unfold tbS
 generalize ldF t l=g at *
 generalize crT l t d h=C at *
 by_cases c:a=0
 · rw [if_pos c]
   cases hB:canB l t d h with
   | true =>
     have:=q1.2 hB
     simp only[if_true]
     repeat' first | (refine Tr.all_ite (fun hc=>?_) (fun hc=>?_)<;>(try simp (disch:=omega) only[nV,nW] at hc)<;>try omega) | (refine Tr.all_req ?_ ?_;· (try simp (disch:=omega) only[nV,nW]);try omega) | (refine Tr.all_reqP ?_ ?_;· first | exact trivial | rfl | exact ⟨rfl,rfl⟩ | exact ⟨rfl,rfl,rfl⟩ | (simp (disch:=omega) only[nV,nW];done) | ((try simp (disch:=omega) only[nV,nW]);omega)) | fail
     all_goals first
      | exact Tr.all_ok ⟨rfl,rfl⟩
      | fail
   | false =>
     have:=q2.2 hB
     simp only[Bool.false_eq_true,if_false]
     repeat' first | (refine Tr.all_ite (fun hc=>?_) (fun hc=>?_)<;>(try simp (disch:=omega) only[nV,nW] at hc)<;>try omega) | (refine Tr.all_req ?_ ?_;· (try simp (disch:=omega) only[nV,nW]);try omega) | (refine Tr.all_reqP ?_ ?_;· first | exact trivial | rfl | exact ⟨rfl,rfl⟩ | exact ⟨rfl,rfl,rfl⟩ | (simp (disch:=omega) only[nV,nW];done) | ((try simp (disch:=omega) only[nV,nW]);omega)) | fail
     all_goals first
      | exact Tr.all_ok ⟨rfl,rfl⟩
      | fail
 · rw[if_neg c]
   repeat' first | (refine Tr.all_ite (fun hc=>?_) (fun hc=>?_)<;>(try simp (disch:=omega) only[nV,nW] at hc)<;>try omega) | (refine Tr.all_req ?_ ?_;· (try simp (disch:=omega) only[nV,nW]);try omega) | (refine Tr.all_reqP ?_ ?_;· first | exact trivial | rfl | exact ⟨rfl,rfl⟩ | exact ⟨rfl,rfl,rfl⟩ | (simp (disch:=omega) only[nV,nW];done) | ((try simp (disch:=omega) only[nV,nW]);omega)) | fail
   all_goals first
    | exact Tr.all_ok ⟨rfl,rfl⟩
    | fail
theorem c61e (a:Int) (e:askE l t k d h≠0):cd (n+11) (.fn 61) [shA l t k d,.int .i64 h,.int .i64 a] H=some (.tup [.nilp,.int .i64 (askE l t k d h)],H):=by
 refine fn_all (n:=n+10) Try.func61 rfl rfl rfl (u61s (n+10) l k t d H h a (askE l t k d h)) (il_ok0 _ (n+10) (tX_ok (noCt_ok _) (fun H=>c66e n l k t d H h e))) (noBT_ok _ _) (noRT_ok _ _) ?_
 generalize askE l t k d h=e at *
 repeat' first | (refine Tr.all_ite (fun hc=>?_) (fun hc=>?_)<;>(try simp (disch:=omega) only[nV,nW] at hc)<;>try omega) | (refine Tr.all_req ?_ ?_;· (try simp (disch:=omega) only[nV,nW]);try omega) | (refine Tr.all_reqP ?_ ?_;· first | exact trivial | rfl | exact ⟨rfl,rfl⟩ | exact ⟨rfl,rfl,rfl⟩ | (simp (disch:=omega) only[nV,nW];done) | ((try simp (disch:=omega) only[nV,nW]);omega)) | fail
 all_goals first
  | exact Tr.all_ok ⟨rfl,rfl⟩
  | fail
end
end Go.Eng
