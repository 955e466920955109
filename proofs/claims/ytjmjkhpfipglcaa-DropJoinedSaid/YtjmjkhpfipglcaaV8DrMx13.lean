/- Drop: newTable. -/
import Derived.Test.YtjmjkhpfipglcaaV8DrJx3
import Derived.Test.YtjmjkhpfipglcaaV8DrAx6
section
namespace Go.Eng
open Go.Proofs
set_option linter.unusedVariables false
set_option linter.unusedSimpArgs false
set_option maxRecDepth 100000
noncomputable def frO:Frm:=[(3,.ptr 0 3 0 0),(52,AV.fn (Fn.func 109) [] [cap0 0])]
noncomputable def frC:Frm:=[(3,.ptr 2 3 0 0),(7,.ptr 0 0 0 0),(55,AV.fn (Fn.func 109) [] [AV.ptrT (some 0) (Row.G [AV.ptr 2 2 0 0]) 0])]
noncomputable def tabV (w:Int) (ls ld:Nat) (zs zd sz kd:Nat→Int):AV:=.ptrT (some 0) (.M [.one (.int .i64 w),.one (slA 2 ls zs),.one (slA 3 ld zd),.one (.slcT none (.M [.arr .i64 sz (mulO ls 2)]) 2 ls true),.arr .i64 kd 144]) 0
noncomputable def recO:ALoop:={ state:=.ready,pending:=none,fn:=77,nt:=94,fr:=frO,params:=[53],assign:=part Try.f77 [1,1,1,0,1,0,0],body:=part Try.f77 [1,1,1,0,1,0,1] }
theorem t77b (n:Nat) (w:Int) (ls ld:Nat) (zs zd sz kd:Nat→Int) (H:Heap) (L:ALoop) (p:Int):execT (cxR n 77 94 2 4) (il noCt n 0) noBT noRT (part Try.f77 [1,1,1,0,1,0,0]) (hints [(3,.ptr 2 3 0 0),(52,AV.fn (Fn.func 109) [] [cap0 2]),(53,.int .i64 p)]) (lv0::lv0::lvT w ls ld zs zd sz kd [(0,.loop L)]::H) =
 Tr.ok (Ex.normal,[(3,AV.ptr 2 3 0 0,none),(7,AV.ptr 0 0 0 0,none)],{ lock:=false,bs:=[(0,Blk.row (Row.I .i64 [p]))] } :: lv0::{ lock:=false,bs:=[(0,Blk.row (Row.G [AV.int .i64 w,slA 2 ls zs,slA 3 ld zd])),(0,Blk.row (Row.M [Seg.arr .i64 sz (mulO ls 2)])),(0,Blk.row (Row.M [Seg.one (AV.int .i64 w),Seg.one (slA 2 ls zs),Seg.one (slA 3 ld zd),Seg.one (AV.slc 0 1 0 0 2 ls (some ls)),Seg.arr .i64 kd 144])),(0,Blk.row (Row.G [AV.ptr 0 2 0 0])),(0,Blk.loop L)] } :: H):=by kernel_rfl
theorem t77c (n:Nat) (w:Int) (ls ld:Nat) (zs zd sz kd kd':Nat→Int) (H:Heap) (L:ALoop) (p:Int):execT (cxR (n+1) 77 94 2 4) (il noCt n 1) noBT (rgE noRT (fun _=>true) frC (lvP p []::lv0::lvT w ls ld zs zd sz kd [(0,.loop L)]::H) (.ok (.normal,hints frC,lvP p [(0,.dead)]::lv0::lvT w ls ld zs zd sz kd' [(0,.loop L)]::H))) (part Try.f77 [1,1,1,0,1,0,1]) (hints [(3,.ptr 2 3 0 0),(7,.ptr 0 0 0 0)]) (lvP p []::lv0::lvT w ls ld zs zd sz kd [(0,.loop L)]::H) =
 (fun (Z0:Lvl)=>((fun (Z1:Frm)=>Tr.reqP (Z1=Z1∧{ lock:=false,bs:=[(0,Blk.row (Row.I .i64 [p]))] } :: lv0::Z0::H={ lock:=false,bs:=[(0,Blk.row (Row.I .i64 [p]))] } :: lv0::Z0::H) (Tr.ok (Ex.normal,[(3,AV.ptr 2 3 0 0,none),(7,AV.ptr 0 0 0 0,none),(55,AV.fn (Fn.func 109) [] [AV.ptrT (some 0) (Row.G [AV.ptr 2 2 0 0]) 0],none)],{ lock:=false,bs:=[(0,Blk.row (Row.I .i64 [p])),(0,Blk.dead)] } :: lv0::{ lock:=false,bs:=[(0,Blk.row (Row.G [AV.int .i64 w,slA 2 ls zs,slA 3 ld zd])),(0,Blk.row (Row.M [Seg.arr .i64 sz (mulO ls 2)])),(0,Blk.row (Row.M [Seg.one (AV.int .i64 w),Seg.one (slA 2 ls zs),Seg.one (slA 3 ld zd),Seg.one (AV.slc 0 1 0 0 2 ls (some ls)),Seg.arr .i64 kd' 144])),(0,Blk.row (Row.G [AV.ptr 0 2 0 0])),(0,Blk.loop L)] } :: H))) [(3,AV.ptr 2 3 0 0),(7,AV.ptr 0 0 0 0),(55,AV.fn (Fn.func 109) [] [AV.ptrT (some 0) (Row.G [AV.ptr 2 2 0 0]) 0])])) { lock:=false,bs:=[(0,Blk.row (Row.G [AV.int .i64 w,slA 2 ls zs,slA 3 ld zd])),(0,Blk.row (Row.M [Seg.arr .i64 sz (mulO ls 2)])),(0,Blk.row (Row.M [Seg.one (AV.int .i64 w),Seg.one (slA 2 ls zs),Seg.one (slA 3 ld zd),Seg.one (AV.slc 0 1 0 0 2 ls (some ls)),Seg.arr .i64 kd 144])),(0,Blk.row (Row.G [AV.ptr 0 2 0 0])),(0,Blk.loop L)] }:=by kernel_rfl
theorem u77 (n:Nat) (w:Int) (ls ld:Nat) (zs zd sz kd:Nat→Int) (H:Heap):bodyT Try.prog (cd (n+1)) 100000 77 Try.f77 (Kt.kt 77) (il noCt n 1) (blkE noBT 0 (fr77 ld zd (Int.ofNat 0)) (lvT w ls ld zs zd (fun _=>0) (fun _=>0) []::H) (.ok (.normal,hints (fr77 ld zd (Int.ofNat ld)++[(20,AV.bool false)]),lvT w ls ld zs zd sz (fun _=>0) []::H))) (rgE noRT (fun _=>true) frO (lvT w ls ld zs zd sz (fun _=>0) []::H) (.ok (.normal,hints frO,lvT w ls ld zs zd sz kd [(0,.dead)]::H))) [(bathA w ls zs ld zd,none)] H =
 (fun (Z0:Lvl)=>((fun (Z1:Frm)=>((fun (Z2:Frm)=>Tr.req (mkO (Int.ofNat ls) (Int.ofNat ls) 16) (Tr.req (andB (leN 0 0) (leN 0 1)) (Tr.reqP (Z1=Z1∧{ lock:=false,bs:=[(0,Blk.row (Row.G [AV.int .i64 w,slA 2 ls zs,slA 3 ld zd])),(0,Blk.row (Row.M [Seg.arr .i64 (fun x=>Int.ofNat 0) (mulO (toN (Int.ofNat ls)) 2)])),(0,Blk.row (Row.M [Seg.one (AV.int .i64 w),Seg.one (slA 2 ls zs),Seg.one (slA 3 ld zd),Seg.one (AV.slc 0 1 0 0 2 (toN (Int.ofNat ls)) (some (toN (Int.ofNat ls)))),Seg.arr .i64 (fun x=>Int.ofNat 0) 144])),(0,Blk.row (Row.G [AV.ptr 0 2 0 0]))] } :: H={ lock:=false,bs:=[(0,Blk.row (Row.G [AV.int .i64 w,slA 2 ls zs,slA 3 ld zd])),(0,Blk.row (Row.M [Seg.arr .i64 (fun x=>Int.ofNat 0) (mulO ls 2)])),(0,Blk.row (Row.M [Seg.one (AV.int .i64 w),Seg.one (slA 2 ls zs),Seg.one (slA 3 ld zd),Seg.one (AV.slc 0 1 0 0 2 ls (some ls)),Seg.arr .i64 (fun x=>Int.ofNat 0) 144])),(0,Blk.row (Row.G [AV.ptr 0 2 0 0]))] } :: H) (Tr.reqP (Z2=Z2∧Z0::H=Z0::H) (Tr.req (eqN 0 0) (Tr.req (inO 0 (mulO ls 2) 0 (mulO ls 2)) (Tr.ok ((AV.ptrT (some 0) (Row.M [Seg.one (AV.int .i64 w),Seg.one (slA 2 ls zs),Seg.one (slA 3 ld zd),Seg.one (AV.slcT none (Row.M [Seg.arr .i64 (shO sz 0) (mulO ls 2)]) 2 ls (eqN ls ls)),Seg.arr .i64 kd 144]) 0,none),H)))))))) [(3,AV.ptr 0 3 0 0),(52,AV.fn (Fn.func 109) [] [AV.ptrT (some 0) (Row.G [AV.ptr 0 2 0 0]) 0])])) [(3,AV.ptr 0 3 0 0),(17,slA 3 ld zd),(18,AV.int .i64 (Int.ofNat ld)),(19,AV.int .i64 (Int.ofNat 0))])) { lock:=false,bs:=[(0,Blk.row (Row.G [AV.int .i64 w,slA 2 ls zs,slA 3 ld zd])),(0,Blk.row (Row.M [Seg.arr .i64 sz (mulO ls 2)])),(0,Blk.row (Row.M [Seg.one (AV.int .i64 w),Seg.one (slA 2 ls zs),Seg.one (slA 3 ld zd),Seg.one (AV.slc 0 1 0 0 2 ls (some ls)),Seg.arr .i64 (fun x=>Int.ofNat 0) 144])),(0,Blk.row (Row.G [AV.ptr 0 2 0 0]))] }:=by kernel_rfl
def kdO (w:Int) (ls:Nat) (zs sz:Nat→Int):Nat→Nat→Int
 | 0=>fun _=>0
 | j+1=>kdI w zs sz ((j:Int)-2) (kdO w ls zs sz j) (ls+2)
noncomputable def gO (w:Int) (ls ld:Nat) (zs zd sz kd:Nat→Int) (H:Heap) (L:ALoop):Heap:=lv0::lvT w ls ld zs zd sz kd [(0,.loop L)]::H
noncomputable def frM (j:Nat):Frm:=[(0,.yld 1 4),(1,cap0 1),(3,.int .i64 ((j:Int)-2))]
theorem r77c:rangesOf (part Try.f77 [1,1,1,0,1,0,1])=[(.tmp 55,#[56],part Try.f77 [1,1,1,0,1,0,1,0,1,0,0],part Try.f77 [1,1,1,0,1,0,1,0,1,0,1])]:=by kernel_rfl
theorem r77o:rangesOf (bodyOf Try.f77)=[(.tmp 52,#[53],part Try.f77 [1,1,1,0,1,0,0],part Try.f77 [1,1,1,0,1,0,1])]:=by kernel_rfl
theorem b77:∀ b,(0,b) ∈ blocksOf (bodyOf Try.f77)→b=.loop (part Try.f77 [1,1,0,1,0,0]):=by
 have:blocksOf (bodyOf Try.f77)=[(0,.loop (part Try.f77 [1,1,0,1,0,0])),(1,part Try.f77 [1,1,0,1,0,0,1,1,0,0]),(2,part Try.f77 [1,1,1,0,1,0])]:=by kernel_rfl
 intro b hb;rw[this] at hb;simpa using hb
section
variable (n:Nat) (w:Int) (ls ld:Nat) (zs zd sz kd:Nat→Int) (H:Heap)
theorem rd_o (hls:ls≤10) (p:Int) (h1:-2≤p∧p<ls):cd (n+6) (.round 1 4) [.int .i64 p] (gO w ls ld zs zd sz kd H recO)=some (.bool true,gO w ls ld zs zd sz (kdI w zs sz p kd (ls+2)) H recO):=by
 have ha:exec (cxR (n+5) 77 94 2 4) (part Try.f77 [1,1,1,0,1,0,0]) [(3,.ptr 2 3 0 0),(52,AV.fn (Fn.func 109) [] [cap0 2]),(53,.int .i64 p)] (lv0::lv0::lvT w ls ld zs zd sz kd [(0,.loop recO)]::H)=some (.normal,[(3,.ptr 2 3 0 0),(7,.ptr 0 0 0 0)],lvP p []::lv0::lvT w ls ld zs zd sz kd [(0,.loop recO)]::H):=by
  have:=execT_ok (cx:=cxR (n+5) 77 94 2 4) (il_no0 (n+5)) (part Try.f77 [1,1,1,0,1,0,0]) (noBT_ok _ _) (noRT_ok _ _) (hints [(3,.ptr 2 3 0 0),(52,AV.fn (Fn.func 109) [] [cap0 2]),(53,.int .i64 p)]) (lv0::lv0::lvT w ls ld zs zd sz kd [(0,.loop recO)]::H) (.normal,hints [(3,.ptr 2 3 0 0),(7,.ptr 0 0 0 0)],lvP p []::lv0::lvT w ls ld zs zd sz kd [(0,.loop recO)]::H) (by rw[t77b];rfl)
  exact this
 have hb:exec (cxR (n+5) 77 94 2 4) (part Try.f77 [1,1,1,0,1,0,1]) [(3,.ptr 2 3 0 0),(7,.ptr 0 0 0 0)] (lvP p []::lv0::lvT w ls ld zs zd sz kd [(0,.loop { recO with state:=.busy })]::H)=some (.normal,frC,lvP p [(0,.dead)]::lv0::lvT w ls ld zs zd sz (kdI w zs sz p kd (ls+2)) [(0,.loop { recO with state:=.busy })]::H):=by
  have:=execT_ok (cx:=cxR (n+5) 77 94 2 4) (il_no (n+4) 1) (part Try.f77 [1,1,1,0,1,0,1]) (noBT_ok _ _) (rgE_ok (noRT_ok _ _) (tf:=fun _=>true) (fr0:=frC) (H0:=lvP p []::lv0::lvT w ls ld zs zd sz kd [(0,.loop { recO with state:=.busy })]::H) (u:=.ok (.normal,hints frC,lvP p [(0,.dead)]::lv0::lvT w ls ld zs zd sz (kdI w zs sz p kd (ls+2)) [(0,.loop { recO with state:=.busy })]::H)) (fun f ps a b _ hm x hx=>by
   rw[r77c] at hm
   simp only[List.mem_cons,Prod.mk.injEq,List.not_mem_nil,or_false] at hm
   obtain ⟨rfl,rfl,rfl,rfl⟩:=hm
   rw[← Tr.ok_some hx]
   exact rg_i n p w ls ld zs zd sz kd H { recO with state:=.busy } hls h1)) (hints [(3,.ptr 2 3 0 0),(7,.ptr 0 0 0 0)]) (lvP p []::lv0::lvT w ls ld zs zd sz kd [(0,.loop { recO with state:=.busy })]::H) (.normal,hints frC,lvP p [(0,.dead)]::lv0::lvT w ls ld zs zd sz (kdI w zs sz p kd (ls+2)) [(0,.loop { recO with state:=.busy })]::H)
   (by rw[show n+5=n+4+1 from rfl,t77c,Tr.run_reqP ⟨rfl,rfl⟩];rfl)
  exact this
 exact round_of (n:=n+5) (l:=recO) (l1:=recO) (l2:={ recO with state:=.busy }) rfl rfl rfl rfl ha rfl rfl hb rfl
theorem l109o (hls:ls≤10):exec (cxD (n+6) 109 18) (.block 0 (.loop (part Try.f109 [1,0,0]))) (frM 0) (gO w ls ld zs zd sz (fun _=>0) H recO)=some (.normal,frM (ls+2)++[(11,.bool false)],gO w ls ld zs zd sz (kdO w ls zs sz (ls+2)) H recO):=by
 refine forE 0 frM (fun j=>gO w ls ld zs zd sz (kdO w ls zs sz j) H recO) (ls+2) (.exit 0,hints (frM (ls+2))++[(11,.bool false,some 1)],gO w ls ld zs zd sz (kdO w ls zs sz (ls+2)) H recO) (by omega) (fun j hj=>?_) ⟨?_,rfl⟩
 · have hr:=rd_o n w ls ld zs zd sz (kdO w ls zs sz j) H hls ((j:Int)-2) ⟨by omega,by omega⟩
   refine ⟨frM (j+1),gO w ls ld zs zd sz (kdO w ls zs sz (j+1)) H recO,ex_of (t109o (n+6) w ls ld zs zd sz (kdO w ls zs sz j) (kdO w ls zs sz (j+1)) H recO ((j:Int)-2)) (rdE_ok (il_no0 (n+6)) (fun x hx=>?_)) (noBT_ok _ _) (noRT_ok _ _) (x:=(.normal,hints (frM (j+1)),gO w ls ld zs zd sz (kdO w ls zs sz (j+1)) H recO)) ?_,rfl,rfl⟩
   · rw[← Tr.ok_some hx];exact hr
   · rw[Tr.run_ite,ltI_eq,decide_eq_true (by simp;omega),cond_true,Tr.run_reqP ⟨rfl,rfl⟩,Tr.run_ite,notB_eq,Bool.not_true,cond_false,Tr.run_ok,addI_eq,show Int.ofNat 1=1 from rfl,wrap_p j (by omega)]
     rfl
 · refine ex_of (t109y (n+6) w ls ld zs zd sz (kdO w ls zs sz (ls+2)) H recO (((ls+2:Nat):Int)-2)) (il_no0 (n+6)) (noBT_ok _ _) (noRT_ok _ _) ?_
   rw[Tr.run_ite,ltI_eq,decide_eq_false (by show ¬ ((ls+2:Nat):Int)-2<((ls:Nat):Int);omega),cond_false]
   rfl
theorem c109o (hls:ls≤10):cd (n+7) (.fn 109) [.yld 0 4,cap0 0] (lvT w ls ld zs zd sz (fun _=>0) [(0,.loop recO)]::H)=some (.tup [],lvT w ls ld zs zd sz (kdO w ls zs sz (ls+2)) [(0,.loop recO)]::H):=by
 have hl:=l109o n w ls ld zs zd sz H hls
 have e:((ls+2:Nat):Int)-2=Int.ofNat ls:=by show _=((ls:Nat):Int);omega
 unfold frM at hl
 rw[e] at hl
 exact fn_of (n:=n+6) Try.func109 rfl rfl rfl (u109o (n+6) w ls ld zs zd sz (fun _=>0) (kdO w ls zs sz (ls+2)) H recO) (il_no0 (n+6)) (blkE_ok (noBT_ok _ _) b109 (fun x hx=>by rw[← Tr.ok_some hx];exact hl)) (noRT_ok _ _) (y:=((.tup [],none),lvT w ls ld zs zd sz (kdO w ls zs sz (ls+2)) [(0,.loop recO)]::H)) (Tr.run_reqP ⟨rfl,rfl⟩)
theorem rg_o (hls:ls≤10):exec (cxD (n+7) 77 94) (.rangeFunc (.tmp 52) #[53] (part Try.f77 [1,1,1,0,1,0,0]) (part Try.f77 [1,1,1,0,1,0,1])) frO (lvT w ls ld zs zd sz (fun _=>0) []::H) =
 some (.normal,frO,lvT w ls ld zs zd sz (kdO w ls zs sz (ls+2)) [(0,.dead)]::H) :=
 range_of (cx:=cxD (n+7) 77 94) (l:=recO) (f:=.tmp 52) (ps:=#[53]) (fr:=frO) (H:=lvT w ls ld zs zd sz (fun _=>0) []::H) (g:=109) (a:=[]) (b:=[cap0 0]) rfl rfl rfl (c109o n w ls ld zs zd sz H hls) rfl rfl rfl
theorem c77 (hls:ls≤10) (hld:ld≤40) (hd:∀ j,j<ld→0≤zd (j*3)∧zd (j*3)<ls):cd (n+8) (.fn 77) [bathA w ls zs ld zd] H=some (tabV w ls ld zs zd (szs zd ld) (kdO w ls zs (szs zd ld) (ls+2)),H):=by
 refine fn_of (n:=n+7) Try.func77 rfl rfl rfl (u77 (n+6) w ls ld zs zd (szs zd ld) (kdO w ls zs (szs zd ld) (ls+2)) H) (il_no (n+6) 1) (blkE_ok (noBT_ok _ _) b77 (fun x hx=>by rw[← Tr.ok_some hx];exact l77 (n+7) w ls ld zs zd (fun _=>0) H hld hd)) (rgE_ok (noRT_ok _ _) (fun f ps a b _ hm x hx=>?_)) (y:=((tabV w ls ld zs zd (szs zd ld) (kdO w ls zs (szs zd ld) (ls+2)),none),H)) ?_
 · rw[r77o] at hm
   simp only[List.mem_cons,Prod.mk.injEq,List.not_mem_nil,or_false] at hm
   obtain ⟨rfl,rfl,rfl,rfl⟩:=hm
   rw[← Tr.ok_some hx]
   exact rg_o n w ls ld zs zd (szs zd ld) H hls
 · have em:mkO (Int.ofNat ls) (Int.ofNat ls) 16=true:=by
    rw[mkO_eq,decide_eq_true_eq]
    have:room=2 ^ 46:=rfl
    have e:(Int.ofNat ls).toNat=ls:=rfl
    rw[e]
    refine ⟨by simp,by simp,?_,?_⟩<;>omega
   rw[Tr.run_req,em,cond_true,toN_eq,show (Int.ofNat ls).toNat=ls from rfl,Tr.run_req,ver0,cond_true,Tr.run_reqP ⟨rfl,rfl⟩,Tr.run_reqP ⟨rfl,rfl⟩,Tr.run_req,beqN_self,cond_true,Tr.run_req,inO_eq,decide_eq_true (by omega),cond_true,Tr.run_ok,shO_zero,beqN_self]
   rfl
end
end Go.Eng
end
section
namespace Go.Eng
open Go.Proofs
set_option linter.unusedVariables false
set_option linter.unusedSimpArgs false
set_option maxRecDepth 100000
def g77 (B:AV) (side:Prop) (t:AV):List AV→Option (Prop×AV)
 | [b]=>some (b=B∧side,t)
 | _=>none
def gS (B:AV) (s:Int) (a b e:Int):List AV→Option (Prop×AV)
 | [c,.int .i64 k]=>some (c=B∧k=s,.tup [.agg (.I .i64 [a,b]),.int .i64 e])
 | _=>none
def g16:List AV→Option (Prop×AV)
 | []=>some (True,.bool true)
 | _=>none
theorem szs_sum (zd:Nat→Int) (ld s:Nat) (hd:∀ j,j<ld→0≤zd (j*3)):∀ j,j≤ld→szs zd j (s*2)=sumS zd (upto (endS false zd) ld) s j∧szs zd j (s*2+1)=sumS zd (upto (endS true zd) ld) s j
 | 0,_=>⟨rfl,rfl⟩
 | j + 1,hj=>by
   obtain ⟨h1,h2⟩:=szs_sum zd ld s hd j (by omega)
   have h0:=hd j (by omega)
   have u:∀ h,upto (endS h zd) ld j=endS h zd j:=fun h=>by unfold upto;rw[if_pos (by omega)]
   simp only[szs,sumS,u]
   by_cases e:zd (j*3)=s
   · have et:(zd (j*3)).toNat=s:=by omega
     rw[if_pos e,if_pos e,if_neg (by omega),if_pos (by omega),if_pos (by omega),et,h1,h2]
     exact ⟨rfl,rfl⟩
   · have et:(zd (j*3)).toNat≠s:=by omega
     rw[if_neg e,if_neg e,if_neg (by omega),if_neg (by omega),if_neg (by omega),if_neg (by omega)]
     exact ⟨h1,h2⟩
theorem chk_drops {w:Int} {ls ld:Nat} {zs zd:Nat→Int} (h:chkB w ls ld zs zd=0):ls≤10∧ld≤40∧∀ j,j<ld→0≤zd (j*3)∧zd (j*3)<ls:=by
 have h1:=chk_len w ls ld zs zd h
 refine ⟨h1.1,h1.2,fun j hj=>?_⟩
 have hb:badD ls zd j=false:=by
  cases hq:badD ls zd j with
  | false=>rfl
  | true =>
    have he:exN (badD ls zd) ld=true:=(exN_iff _ _).2 ⟨j,hj,hq⟩
    unfold chkB at h
    rw[he] at h
    generalize exN (badS w zs) ls=b1 at h
    generalize exN (fun i=>exN (eqS zs i) i) ls=b2 at h
    by_cases e1:w<2<;>by_cases e2:1000<w<;>by_cases e3:10<ls<;>by_cases e4:40<ld<;>cases b1<;>cases b2<;>simp[e1,e2,e3,e4] at h
 simp only[badD,Bool.or_eq_false_iff,decide_eq_false_iff_not] at hb
 omega
section
variable (n:Nat) (w:Int) (ls ld:Nat) (zs zd:Nat→Int) (H:Heap) (s:Int)
theorem ct19 (k:Nat) (t:Ctr) (ht:t.Ok (cd (n+11+k))):(ctG t 19 (g20 (bathA w ls zs ld zd) (chkB w ls ld zs zd))).Ok (cd (n+11+k)):=by
 refine ctG_ok ht (fun args p v h hp H=>?_)
 unfold g20 at h
 split at h
 · simp only[nP] at h
   obtain ⟨rfl,rfl⟩:=h
   rw[hp,show n+11+k=n+k+11 by omega]
   exact c19 (n+k) w ls ld zs zd H
 · cases h
theorem c16:cd (n+1) (.fn 16) [] H=some (.bool true,H):=rfl
end
section
variable (n:Nat) (w:Int) (ls ld:Nat) (zs zd:Nat→Int) (H:Heap) (s:Int)
end
end Go.Eng
end
section
namespace Go.Eng
open Go.Proofs
set_option linter.unusedVariables false
set_option linter.unusedSimpArgs false
set_option maxRecDepth 100000
def g45t (B T:AV) (side:Prop) (so:Int→Int):List AV→Option (Prop×AV)
 | [b,t,.int .i64 k]=>some (b=B∧t=T∧side,.int .i64 (so k))
 | _=>none
def g70 (B:AV) (P Q e:Int):List AV→Option (Prop×AV)
 | [b,.int .i64 p,.int .i64 q]=>some (b=B∧p=P∧q=Q,.int .i64 e)
 | _=>none
def g68 (B:AV) (P Q:Int) (t:AV) (e:Int):List AV→Option (Prop×AV)
 | [b,.int .i64 p,.int .i64 q]=>some (b=B∧p=P∧q=Q,.tup [t,.int .i64 e])
 | _=>none
end Go.Eng
end
section
namespace Go.Eng
open Go.Proofs
set_option linter.unusedVariables false
set_option linter.unusedSimpArgs false
set_option maxRecDepth 100000
theorem sq_le {k M:Int} (h1:-M≤k) (h2:k≤M):0≤k*k∧k*k≤M*M:=by
 by_cases h:0≤k
 · exact ⟨Int.mul_nonneg h h,Int.mul_le_mul h2 h2 h (by omega)⟩
 · have e:k*k=(-k)*(-k):=(Int.neg_mul_neg k k).symm
   rw[e]
   exact ⟨Int.mul_nonneg (by omega) (by omega),Int.mul_le_mul (by omega) (by omega) (by omega) (by omega)⟩
def spotB (zs:Nat→Int) (j:Nat):Prop:=1≤zs (j*2)∧zs (j*2)≤1000∧0≤zs (j*2+1)∧zs (j*2+1)≤1000
def bothR (a c x y x' y':Int):Bool :=
 let wr:=IntKind.i64.wrap
 let d:=wr (wr (wr (x-x')*wr (x-x'))+wr (wr (y-y')*wr (y-y')))
 decide (d≤wr (a+c)) || decide (wr (wr (wr (d-a)-c)*wr (wr (d-a)-c))≤wr (wr (4*a)*c))
theorem wr_in {k:Int} (h1:-9223372036854775808≤k) (h2:k≤9223372036854775807):IntKind.i64.wrap k=k:=Go.IntWalk.i64_in _ (by omega)
theorem both_eq {a c x y x' y':Int} (ha:0≤a∧a≤1000000) (hc:0≤c∧c≤1000000) (hx:0≤x∧x≤1000) (hy:0≤y∧y≤1000) (hx':0≤x'∧x'≤1000) (hy':0≤y'∧y'≤1000) :
 bothT a c x y x' y'=if c=0 then false else bothR a c x y x' y':=by
 have s1:=sq_le (k:=x-x') (M:=1000) (by omega) (by omega)
 have s2:=sq_le (k:=y-y') (M:=1000) (by omega) (by omega)
 have e1:IntKind.i64.wrap (x-x')=x-x':=wr_in (by omega) (by omega)
 have e2:IntKind.i64.wrap (y-y')=y-y':=wr_in (by omega) (by omega)
 unfold bothT bothR
 simp only[e1,e2]
 generalize (x-x')*(x-x')=X at s1 ⊢
 generalize (y-y')*(y-y')=Y at s2 ⊢
 rw[wr_in (k:=X) (by omega) (by omega),wr_in (k:=Y) (by omega) (by omega),wr_in (k:=X+Y) (by omega) (by omega),wr_in (k:=X+Y-a) (by omega) (by omega),wr_in (k:=X+Y-a-c) (by omega) (by omega),wr_in (k:=a+c) (by omega) (by omega)]
 by_cases h0:c=0
 · rw[if_pos h0,decide_eq_false (by omega:¬ 0<c)];rfl
 · rw[if_neg h0,decide_eq_true (by omega:0<c),Bool.true_and]
   congr 1
   by_cases h:X+Y≤a+c
   · rw[decide_eq_true h,decide_eq_true (by omega)]
   · rw[decide_eq_false h,decide_eq_false (by omega)]
section
variable (n:Nat) (w:Int) (ls ld:Nat) (zs zd:Nat→Int) (H:Heap) (p q:Int) (so:Int→Int)
structure TouchB (ls:Nat) (zs:Nat→Int) (so:Int→Int) (p q:Int):Prop where
 hp:-2≤p∧p<ls
 hq:-2≤q∧q<ls
 spot:∀ j,j<ls→spotB zs j
 size:∀ s,0≤so s∧so s≤1000000
end
end Go.Eng
end
section
namespace Go.Eng
open Go.Proofs
set_option linter.unusedVariables false
set_option linter.unusedSimpArgs false
set_option maxRecDepth 100000
section
variable (n:Nat) (w:Int) (ls ld:Nat) (zs zd:Nat→Int) (H:Heap) (p q:Int) (so:Int→Int)
end
end Go.Eng
end
section
namespace Go.Eng
open Go.Proofs
set_option linter.unusedVariables false
set_option linter.unusedSimpArgs false
set_option maxRecDepth 100000
theorem u68 (n:Nat) (w:Int) (ls ld:Nat) (zs zd sz kd:Nat→Int) (H:Heap) (p q e:Int) (side:Prop):bodyT Try.prog (cd (n+13)) 100000 68 Try.f68 (Kt.kt 68) (il (ctG (ctG noCt 19 (g20 (bathA w ls zs ld zd) e)) 77 (g77 (bathA w ls zs ld zd) side (tabV w ls ld zs zd sz kd))) (n+11) 2) noBT noRT [(bathA w ls zs ld zd,none),(.int .i64 p,none),(.int .i64 q,none)] H =
 (fun (Z0:AV×Option Nat)=>Tr.reqP (bathA w ls zs ld zd=bathA w ls zs ld zd) (Tr.ite (notB (eqI e (Int.ofNat 0))) (Tr.ite (notB (eqI e (Int.ofNat 0))) (Tr.ok ((AV.tup [AV.nilp,AV.int .i64 e],none),H)) (Tr.ite (leI (Int.negSucc 1) p) Tr.bad (Tr.ok (Z0,H)))) (Tr.reqP (bathA w ls zs ld zd=bathA w ls zs ld zd∧side) (Tr.ite (notB (eqI (Int.ofNat 0) (Int.ofNat 0))) (Tr.ok ((AV.tup [AV.nilp,AV.int .i64 (Int.ofNat 0)],none),H)) (Tr.ite (leI (Int.negSucc 1) p) (Tr.ite (notB (ltI p (Int.ofNat ls))) (Tr.ok (Z0,H)) (Tr.ite (leI (Int.negSucc 1) q) (Tr.ite (notB (ltI q (Int.ofNat ls))) (Tr.ok (Z0,H)) (Tr.ite (eqI p q) (Tr.ok (Z0,H)) (Tr.ok ((AV.tup [AV.ptrT (some 0) (Row.M [Seg.one (AV.int .i64 w),Seg.one (slA 2 ls zs),Seg.one (slA 3 ld zd),Seg.one (AV.slcT none (Row.M [Seg.arr .i64 sz (mulO ls 2)]) 2 ls true),Seg.arr .i64 kd 144]) 0,AV.int .i64 (Int.ofNat 0)],none),H)))) (Tr.ok (Z0,H)))) (Tr.ok (Z0,H))))))) (AV.tup [AV.nilp,AV.int .i64 (Int.ofNat 2)],none):=by kernel_rfl
def isPl (ls:Nat) (p:Int):Bool:=decide (-2≤p) && decide (p<ls)
def plE (w:Int) (ls ld:Nat) (zs zd:Nat→Int) (p q:Int):Int :=
 if chkB w ls ld zs zd≠0 then chkB w ls ld zs zd else if isPl ls p=true∧isPl ls q=true∧p≠q then 0 else 2
def kndR (w:Int) (ld:Nat) (zs zd:Nat→Int) (p q:Int):Int :=
 if touchT w zs (szE false zd ld) p q then 2 else if touchT w zs (szE true zd ld) p q then 1 else 0
section
variable (n:Nat) (w:Int) (ls ld:Nat) (zs zd:Nat→Int) (H:Heap) (p q:Int)
def KndB (ls ld:Nat) (zs zd:Nat→Int) (p q:Int):Prop:=ld<2 ^ 16∧∀ h,TouchB ls zs (szE h zd ld) p q
end
end Go.Eng
end
section
namespace Go.Eng
open Go.Proofs
set_option linter.unusedVariables false
set_option linter.unusedSimpArgs false
set_option maxRecDepth 100000
theorem chk_ok {w:Int} {ls ld:Nat} {zs zd:Nat→Int} (h:chkB w ls ld zs zd=0):ls≤10∧ld≤40∧2≤w∧w≤1000∧(∀ j,j<ls→badS w zs j=false)∧∀ j,j<ld→badD ls zd j=false:=by
 have h1:=chk_len w ls ld zs zd h
 have hn:∀ (f:Nat→Bool) (N:Nat),exN f N=false→∀ j,j<N→f j=false:=fun f N hf j hj=>by
  cases hq:f j with
  | false=>rfl
  | true=>rw[(exN_iff _ _).2 ⟨j,hj,hq⟩] at hf;cases hf
 unfold chkB at h
 cases b1:exN (badS w zs) ls<;>cases b2:exN (fun i=>exN (eqS zs i) i) ls<;>cases b3:exN (badD ls zd) ld <;>
  rw[b1,b2,b3] at h <;>
  by_cases e1:w<2<;>by_cases e2:1000<w<;>by_cases e3:10<ls<;>by_cases e4:40<ld<;>simp[e1,e2,e3,e4] at h
 exact ⟨h1.1,h1.2,by omega,by omega,hn _ _ b1,hn _ _ b3⟩
theorem szE_bound {ls ld:Nat} {zd:Nat→Int} (hd:∀ j,j<ld→badD ls zd j=false) (hl:ld≤100) (h:Bool) (s:Int):0≤szE h zd ld s∧szE h zd ld s≤1000000:=by
 have key:∀ j,j≤ld→0≤sumS zd (upto (endS h zd) ld) s j∧sumS zd (upto (endS h zd) ld) s j≤10000*j:=by
  intro j
  induction j with
  | zero=>intro _;exact ⟨Int.le_refl _,Int.le_refl _⟩
  | succ j ih =>
    intro hj
    obtain ⟨i1,i2⟩:=ih (by omega)
    have b:=hd j (by omega)
    simp only[badD,Bool.or_eq_false_iff,decide_eq_false_iff_not] at b
    have u:1≤upto (endS h zd) ld j∧upto (endS h zd) ld j≤10000:=by
     unfold upto;rw[if_pos (by omega)]
     have e2:zd (j*3+1+1)=zd (j*3+2):=rfl
     have e3:endS h zd j=zd (j*3+1)∨endS h zd j=zd (j*3+2):=by
      cases h
      · exact .inl rfl
      · exact .inr rfl
     omega
    unfold sumS
    by_cases e:zd (j*3)=s
    · rw[if_pos e,wr_in (by omega) (by omega)];omega
    · rw[if_neg e];omega
 have:=key ld (Nat.le_refl _)
 unfold szE
 omega
theorem knd_ok {w:Int} {ls ld:Nat} {zs zd:Nat→Int} {p q:Int} (h:chkB w ls ld zs zd=0) (hp:isPl ls p=true) (hq:isPl ls q=true):KndB ls ld zs zd p q:=by
 obtain ⟨h1,h2,h3,h4,h5,h6⟩:=chk_ok h
 simp only[isPl,Bool.and_eq_true,decide_eq_true_eq] at hp hq
 refine ⟨by omega,fun b=>⟨hp,hq,fun j hj=>?_,fun s=>szE_bound h6 (by omega) b s⟩⟩
 have:=h5 j hj
 simp only[badS,Bool.or_eq_false_iff,decide_eq_false_iff_not] at this
 unfold spotB
 omega
theorem touch_congr {w:Int} {zs:Nat→Int} {f g:Int→Int} {p q:Int} (h:∀ s,0≤s→f s=g s):touchT w zs f p q=touchT w zs g p q:=by
 unfold touchT
 by_cases h1:p<0<;>by_cases h2:q<0
 · simp only[h1,h2,and_self,if_true]
 · simp only[h1,h2,and_false,if_false,if_true]
   rw[h q (by omega),if_neg (show ¬ 0≤p by omega)]
   by_cases e:g q=0
   · rw[if_pos e,if_pos e]
   · rw[if_neg e,if_neg e,if_neg (show ¬ 0≤p by omega)]
 · simp only[h1,h2,false_and,if_false]
   rw[h p (by omega),if_neg (show ¬ 0≤q by omega),if_neg (show ¬ 0≤q by omega)]
 · simp only[h1,h2,false_and,if_false]
   rw[h p (by omega),h q (by omega)]
def kv (w:Int) (zs sz:Nat→Int) (p q d:Int):Int :=
 if p=q then d else if touchT w zs (fun s=>sz (s.toNat*2)) p q then 2 else if touchT w zs (fun s=>sz (s.toNat*2+1)) p q then 1 else d
theorem kdS_get {w:Int} {zs sz:Nat→Int} {p q p0 q0:Int} {kd:Nat→Int} (hp:-2≤p) (hp0:-2≤p0) (hq:-2≤q∧q<10) (hq0:-2≤q0∧q0<10) :
 kdS w zs sz p q kd (kix p0 q0)=if p=p0∧q=q0 then kv w zs sz p q (kd (kix p0 q0)) else kd (kix p0 q0):=by
 by_cases e:p=p0∧q=q0
 · obtain ⟨rfl,rfl⟩:=e
   rw[if_pos ⟨rfl,rfl⟩]
   unfold kdS kv
   split
   · rfl
   · split
     · simp only[if_true]
     · split
       · simp only[if_true]
       · rfl
 · rw[if_neg e]
   have ne:kix p0 q0≠kix p q:=by unfold kix;omega
   unfold kdS
   split
   · rfl
   · split
     · simp only[if_neg ne]
     · split
       · simp only[if_neg ne]
       · rfl
theorem kdI_get {w:Int} {zs sz:Nat→Int} {p p0 q0:Int} {kd:Nat→Int} (hp:-2≤p) (hp0:-2≤p0) (hq0:-2≤q0∧q0<10):∀ N:Nat,N≤12 →
 kdI w zs sz p kd N (kix p0 q0)=if p=p0∧q0+2<N then kv w zs sz p q0 (kd (kix p0 q0)) else kd (kix p0 q0)
 | 0,_=>by rw[if_neg (by omega)];rfl
 | N + 1,hN=>by
   have ih:=kdI_get (w:=w) (zs:=zs) (sz:=sz) (kd:=kd) hp hp0 hq0 N (by omega)
   show kdS w zs sz p ((N:Int)-2) (kdI w zs sz p kd N) (kix p0 q0)=_
   rw[kdS_get hp hp0 ⟨by omega,by omega⟩ hq0,ih]
   by_cases e:p=p0
   · by_cases e1:(N:Int)-2=q0
     · rw[if_pos ⟨e,e1⟩,if_neg (show ¬ (p=p0∧q0+2<(N:Int)) by omega),if_pos (show p=p0∧q0+2<((N+1:Nat):Int) by omega),e1]
     · rw[if_neg (show ¬ (p=p0∧(N:Int)-2=q0) by omega)]
       by_cases e2:q0+2<(N:Int)
       · rw[if_pos ⟨e,e2⟩,if_pos (show p=p0∧q0+2<((N+1:Nat):Int) by omega)]
       · rw[if_neg (show ¬ (p=p0∧q0+2<(N:Int)) by omega),if_neg (show ¬ (p=p0∧q0+2<((N+1:Nat):Int)) by omega)]
   · rw[if_neg (fun h=>e h.1),if_neg (fun h=>e h.1),if_neg (fun h=>e h.1)]
theorem kdO_get {w:Int} {ls:Nat} {zs sz:Nat→Int} {p0 q0:Int} (hls:ls≤10) (hp0:-2≤p0) (hq0:-2≤q0∧q0<ls):∀ N:Nat,N≤12 →
 kdO w ls zs sz N (kix p0 q0)=if p0+2<N then kv w zs sz p0 q0 0 else 0
 | 0,_=>by rw[if_neg (by omega)];rfl
 | N + 1,hN=>by
   have ih:=kdO_get (w:=w) (zs:=zs) (sz:=sz) hls hp0 hq0 N (by omega)
   show kdI w zs sz ((N:Int)-2) (kdO w ls zs sz N) (ls+2) (kix p0 q0)=_
   rw[kdI_get (by omega) hp0 ⟨hq0.1,by omega⟩ (ls+2) (by omega),ih]
   by_cases e:(N:Int)-2=p0
   · rw[if_pos (show (N:Int)-2=p0∧q0+2<((ls+2:Nat):Int) by omega),if_neg (show ¬ p0+2<(N:Int) by omega),if_pos (show p0+2<((N+1:Nat):Int) by omega),e]
   · rw[if_neg (fun h=>e h.1)]
     by_cases e2:p0+2<(N:Int)
     · rw[if_pos e2,if_pos (show p0+2<((N+1:Nat):Int) by omega)]
     · rw[if_neg e2,if_neg (show ¬ p0+2<((N+1:Nat):Int) by omega)]
theorem kd_knd {w:Int} {ls ld:Nat} {zs zd:Nat→Int} {p q:Int} (h:chkB w ls ld zs zd=0) (hp:isPl ls p=true) (hq:isPl ls q=true) (hpq:p≠q) :
 kdO w ls zs (szs zd ld) (ls+2) (kix p q)=kndR w ld zs zd p q:=by
 have hc:=chk_drops h
 simp only[isPl,Bool.and_eq_true,decide_eq_true_eq] at hp hq
 rw[kdO_get hc.1 hp.1 hq (ls+2) (by omega),if_pos (by omega)]
 unfold kv kndR
 rw[if_neg hpq]
 have hs:∀ b:Bool,∀ s:Int,0≤s→(cond b (szs zd ld (s.toNat*2+1)) (szs zd ld (s.toNat*2)))=szE b zd ld s:=fun b s h0=>by
  have:=szs_sum zd ld s.toNat (fun j hj=>(hc.2.2 j hj).1) ld (Nat.le_refl _)
  have e:((s.toNat:Nat):Int)=s:=by omega
  rw[e] at this
  cases b
  · exact this.1
  · exact this.2
 rw[touch_congr (f:=fun s=>szs zd ld (s.toNat*2)) (g:=szE false zd ld) (fun s h0=>hs false s h0),touch_congr (f:=fun s=>szs zd ld (s.toNat*2+1)) (g:=szE true zd ld) (fun s h0=>hs true s h0)]
end Go.Eng
end
section
namespace Go.Eng
open Go.Proofs
set_option linter.unusedVariables false
set_option linter.unusedSimpArgs false
set_option maxRecDepth 100000
section
variable (n:Nat) (w:Int) (ls ld:Nat) (zs zd:Nat→Int) (H:Heap) (p q:Int)
theorem plE_zero {w:Int} {ls ld:Nat} {zs zd:Nat→Int} {p q:Int} (h:plE w ls ld zs zd p q=0):chkB w ls ld zs zd=0∧isPl ls p=true∧isPl ls q=true∧p≠q:=by
 unfold plE at h
 by_cases h1:chkB w ls ld zs zd=0
 · rw[if_neg (fun h=>h h1)] at h
   by_cases h2:isPl ls p=true∧isPl ls q=true∧p≠q
   · exact ⟨h1,h2⟩
   · rw[if_neg h2] at h;exact absurd h (by decide)
 · rw[if_pos h1] at h;exact absurd h h1
def touK (w:Int) (ls ld:Nat) (zs zd:Nat→Int) (p q:Int):Int:=if plE w ls ld zs zd p q≠0 then 0 else kndR w ld zs zd p q
noncomputable def plT (w:Int) (ls ld:Nat) (zs zd:Nat→Int) (p q:Int):AV:=if plE w ls ld zs zd p q≠0 then .nilp else tabV w ls ld zs zd (szs zd ld) (kdO w ls zs (szs zd ld) (ls+2))
theorem c68:cd (n+14) (.fn 68) [bathA w ls zs ld zd,.int .i64 p,.int .i64 q] H=some (.tup [plT w ls ld zs zd p q,.int .i64 (plE w ls ld zs zd p q)],H):=by
 refine fn_of (n:=n+13) Try.func68 rfl rfl rfl (u68 n w ls ld zs zd (szs zd ld) (kdO w ls zs (szs zd ld) (ls+2)) H p q (chkB w ls ld zs zd) (ls≤10∧ld≤40∧∀ j,j<ld→0≤zd (j*3)∧zd (j*3)<ls)) (il_ok _ (n+11) 2 (fun k=>ctG_ok (ct19 n w ls ld zs zd k _ (noCt_ok _)) (fun args p v h hp H=>?_))) (noBT_ok _ _) (noRT_ok _ _) (y:=((.tup [plT w ls ld zs zd p q,.int .i64 (plE w ls ld zs zd p q)],none),H)) ?_
 · unfold g77 at h
   split at h
   · simp only[nP] at h
     obtain ⟨rfl,rfl⟩:=h
     obtain ⟨rfl,h1,h2,h3⟩:=hp
     rw[show n+11+k=n+3+k+8 by omega]
     exact c77 _ w ls ld zs zd H h1 h2 h3
   · cases h
 · rw [Tr.run_reqP rfl]
   by_cases e:chkB w ls ld zs zd=0
   · have hc := chk_drops e
     have e0:Int.negSucc 1=-2:=rfl
     have eE:plE w ls ld zs zd p q=if isPl ls p=true∧isPl ls q=true∧p≠q then 0 else 2:=by unfold plE;rw[if_neg (fun h=>h e)]
     rw[Tr.run_ite,notB_eq,eqI_dec,decide_eq_true (by rw[e];rfl),Bool.not_true,cond_false,Tr.run_reqP ⟨rfl,hc⟩,Tr.run_ite,notB_eq,eqI_dec,decide_eq_true rfl,Bool.not_true,cond_false]
     have no:¬ (isPl ls p=true∧isPl ls q=true∧p≠q)→(.tup [plT w ls ld zs zd p q,.int .i64 (plE w ls ld zs zd p q)]:AV)=.tup [.nilp,.int .i64 2]:=fun h=>by
      unfold plT
      rw[eE,if_neg h];rfl
     by_cases h1:-2≤p
     · by_cases h2:p<(ls:Int)
       · by_cases h3:-2≤q
         · by_cases h4:q<(ls:Int)
           · by_cases h5:p=q
             · rw[no (fun h=>h.2.2 h5)]
               simp (disch:=omega) only[nX,nS,eqI_dec,e0]
               rfl
             · have ey:isPl ls p=true∧isPl ls q=true∧p≠q:=⟨by simp[isPl,h1,h2],by simp[isPl,h3,h4],h5⟩
               unfold plT
               rw[eE,if_pos ey,if_neg (by simp)]
               simp (disch:=omega) only[nX,nS,eqI_dec,e0]
               rfl
           · rw[no (fun h=>by simp[isPl,h4] at h)]
             simp (disch:=omega) only[nX,nS,eqI_dec,e0]
             rfl
         · rw[no (fun h=>by simp[isPl,h3] at h)]
           simp (disch:=omega) only[nX,nS,eqI_dec,e0]
           rfl
       · rw[no (fun h=>by simp[isPl,h2] at h)]
         simp (disch:=omega) only[nX,nS,eqI_dec,e0]
         rfl
     · rw[no (fun h=>by simp[isPl,h1] at h)]
       simp (disch:=omega) only[nX,nS,eqI_dec,e0]
       rfl
   · have eE:plE w ls ld zs zd p q=chkB w ls ld zs zd:=by unfold plE;rw[if_pos e]
     unfold plT
     rw[eE,if_pos e]
     simp only[Tr.run_ite,notB_eq,eqI_dec]
     rw[decide_eq_false (show ¬ chkB w ls ld zs zd=Int.ofNat 0 from e),Bool.not_false,cond_true,cond_true]
     rfl
end
theorem ctW {n:Nat} {t:Ctr} (ht:t.Ok (cd (n+1))):(ctG t 16 g16).Ok (cd (n+1)):=by
 refine ctG_ok ht (fun args p v hg hp H=>?_)
 unfold g16 at hg
 split at hg
 · simp only[nP] at hg
   obtain ⟨_,rfl⟩:=hg
   exact c16 _ H
 · cases hg
end Go.Eng
end
section
namespace Go.Eng
open Go.Proofs
set_option linter.unusedVariables false
set_option linter.unusedSimpArgs false
set_option maxRecDepth 100000
def hlF (w:Int) (ld:Nat) (zs zd:Nat→Int) (sure:Bool) (p q:Int):Bool:=decide ((if sure then 2 else 1)≤kndR w ld zs zd p q)
section
variable (n:Nat) (w:Int) (ls ld:Nat) (zs zd:Nat→Int) (H:Heap) (sure:Bool)
def hitK (z:Nat→Int) (s:Int) (hl:Int→Int→Bool) (i k:Nat):Bool:=decide (k≠i) && (decide (z k=s) && hl ((i:Int)-2) ((k:Int)-2))
def stpI (z:Nat→Int) (s:Int) (hl:Int→Int→Bool) (N i:Nat):Int:=if z i=0∧exN (hitK z s hl i) N=true then s+1 else z i
def stpS (z:Nat→Int) (s:Int) (hl:Int→Int→Bool) (N i:Nat):Int:=if i<N then stpI z s hl N i else z i
theorem forX {n f nt:Nat} {c:Code} (id:Nat) (F:Nat→Frm) (G:Nat→Heap) (N:Nat) (Y:Frm×Heap) (hN:N<99999)
 (hs:∀ j,j<N→∃ x,exec (cxD n f nt) c (F j) (G j)=some x∧(x.1=.normal∧tidy (hNext (G 0)) x.2.1 x.2.2=(F (j+1),G (j+1))))
 (he:exec (cxD n f nt) c (F N) (G N)=some (.exit id,Y)):exec (cxD n f nt) (.block id (.loop c)) (F 0) (G 0)=some (.normal,Y):=by
 have:=findX id F G N (fun _=>false) (fun _=>Y) Y hN (fun j hj=>by
  obtain ⟨x,h1,h2⟩:=hs j hj
  exact ⟨x,h1,by rw[if_neg (by simp)];exact h2⟩) he
 have h0:exN (fun _=>false) N=false:=by
  cases h:exN (fun _=>false) N with
  | false=>rfl
  | true=>obtain ⟨i,_,h2⟩:=(exN_iff _ _).1 h;cases h2
 rw[h0] at this
 exact this
def stJ (z0:Nat→Int) (hl:Int→Int→Bool) (N:Nat):Nat→Nat→Int
 | 0=>z0
 | j+1=>stpS (stJ z0 hl N j) ((j:Int)+1) hl N
def st0 (to:Int) (i:Nat):Int:=if (i:Int)=to+2 then 1 else 0
noncomputable def stZ (w:Int) (ls ld:Nat) (zs zd:Nat→Int) (sure:Bool) (to:Int):Nat→Int:=stJ (st0 to) (hlF w ld zs zd sure) (ls+2) (ls+1)
end
end Go.Eng
end
section
namespace Go.Eng
open Go.Proofs
set_option linter.unusedVariables false
set_option linter.unusedSimpArgs false
set_option maxRecDepth 100000
noncomputable def sl1 (m:Nat) (z:Nat→Int) (full:Bool):AV:=.slcT none (.M [.arr .i64 z m]) 1 m full
noncomputable def fr90 (m:Nat) (z:Nat→Int) (full:Bool) (p j:Int):Frm:=[(0,sl1 m z full),(1,.int .i64 p),(5,.int .i64 j)]
noncomputable def g81 (B:AV) (to:Int) (sure:Bool) (T:AV):List AV→Option (Prop×AV)
 | [b,.int .i64 p,.bool s]=>some (b=B∧p=to∧s=sure,T)
 | _=>none
def gIn (f:(Nat→Int)→Nat→Int→Bool):List AV→Option (Prop×AV)
 | [.slcT none (.M [.arr .i64 z N]) 1 m full,.int .i64 p]=>some (N=m∧leN m 1000=true,.bool (f z m p))
 | _=>none
theorem t90 (n:Nat) (H:Heap) (m:Nat) (z:Nat→Int) (full:Bool) (p j:Int):execT (cxD n 90 18) (il noCt n 0) noBT noRT (part Try.f90 [1,0,1,0,0]) (hints (fr90 m z full p j)) (lv0::H) =
 Tr.ite (ltI j (Int.ofNat m)) (Tr.req (inI j m) (Tr.req (ltN (idO 0 j 1) m) (Tr.ite (eqI (z (idO 0 j 1)) p) (Tr.ok (Ex.ret,[(4,AV.bool true,some 1)],lv0::H)) (Tr.ok (Ex.normal,[(0,AV.slcT none (Row.M [Seg.arr .i64 z m]) 1 m full,none),(1,AV.int .i64 p,none),(5,AV.int .i64 (addI .i64 j (Int.ofNat 1)),none)],lv0::H))))) (Tr.ok (Ex.exit 0,[(0,AV.slcT none (Row.M [Seg.arr .i64 z m]) 1 m full,none),(1,AV.int .i64 p,none),(5,AV.int .i64 j,none),(9,AV.bool false,some 1)],lv0::H)):=by kernel_rfl
theorem u90 (n:Nat) (H:Heap) (m:Nat) (z:Nat→Int) (full:Bool) (p:Int) (e:Bool):bodyT Try.prog (cd n) 100000 90 Try.f90 (Kt.kt 90) (il noCt n 0) (blkE noBT 0 (fr90 m z full p 0) (lv0::H) (.ite e (.ok (.ret,[(4,.bool true,none)],lv0::H)) (.ok (.normal,hints (fr90 m z full p (Int.ofNat m)++[(9,.bool false)]),lv0::H)))) noRT [(sl1 m z full,none),(.int .i64 p,none)] H =
 (fun (Z0:Frm)=>Tr.reqP (Z0=Z0∧lv0::H=lv0::H) (Tr.ite e (Tr.ok ((AV.bool true,none),H)) (Tr.ok ((AV.bool false,some 1),H)))) [(0,AV.slcT none (Row.M [Seg.arr .i64 z m]) 1 m full),(1,AV.int .i64 p),(5,AV.int .i64 (Int.ofNat 0))]:=by kernel_rfl
def inN (z:Nat→Int) (m:Nat) (p:Int):Bool:=exN (fun j=>decide (z j=p)) m
theorem b90:∀ b,(0,b) ∈ blocksOf (bodyOf Try.f90)→b=.loop (part Try.f90 [1,0,1,0,0]):=by
 have:((blocksOf (bodyOf Try.f90)).filter fun x=>Nat.beq x.1 0)=[(0,.loop (part Try.f90 [1,0,1,0,0]))]:=by kernel_rfl
 intro b hb
 have hm:(0,b) ∈ ((blocksOf (bodyOf Try.f90)).filter fun x=>Nat.beq x.1 0):=List.mem_filter.2 ⟨hb,rfl⟩
 rw[this] at hm;simpa using hm
theorem c90 (n:Nat) (H:Heap) (m:Nat) (z:Nat→Int) (full:Bool) (p:Int) (hm:m≤1000):cd (n+1) (.fn 90) [sl1 m z full,.int .i64 p] H=some (.bool (inN z m p),H):=by
 have l:=findX (n:=n) (f:=90) (nt:=18) (c:=part Try.f90 [1,0,1,0,0]) 0 (fun j=>fr90 m z full p (j:Int)) (fun _=>lv0::H) m (fun j=>decide (z j=p)) (fun j=>([(4,.bool true)],lv0::H)) (fr90 m z full p (Int.ofNat m)++[(9,.bool false)],lv0::H) (by omega) (fun j hj=>?_) ?_
 · refine fn_all (n:=n) Try.func90 rfl rfl rfl (u90 n H m z full p (inN z m p)) (il_no0 n) (blkE_ok (noBT_ok _ _) b90 (fun x hx=>?_)) (noRT_ok _ _) ?_
   · refine Eq.trans l ?_
     rcases Tr.ite_some hx with ⟨hc,hx⟩ | ⟨hc,hx⟩
     · rw[← Tr.ok_some hx,show exN (fun j=>decide (z j=p)) m=true from hc];rfl
     · rw[← Tr.ok_some hx,show exN (fun j=>decide (z j=p)) m=false from hc];simp only[Res.st,hints_eq];rfl
   · repeat' first | (refine Tr.all_ite (fun hc=>?_) (fun hc=>?_)<;>(try simp (disch:=omega) only[nV,nW] at hc)<;>try omega) | (refine Tr.all_req ?_ ?_;· (try simp (disch:=omega) only[nV,nW]);try omega) | (refine Tr.all_reqP ?_ ?_;· first | exact trivial | rfl | exact ⟨rfl,rfl⟩ | exact ⟨rfl,rfl,rfl⟩ | (simp (disch:=omega) only[nV,nW];done) | ((try simp (disch:=omega) only[nV,nW]);omega)) | fail
     · refine Tr.all_ok ⟨?_,rfl⟩;rw[hc]
     · refine Tr.all_ok ⟨?_,rfl⟩;rw[hc]
 · have ej:addI .i64 (j:Int) (Int.ofNat 1)=((j+1:Nat):Int):=by rw[addI_eq,show Int.ofNat 1=1 from rfl];exact wr_64 (by omega) (by omega)
   refine ex_all (t90 n H m z full p (j:Int)) (il_no0 n) (noBT_ok _ _) (noRT_ok _ _) ?_
   repeat' first | (refine Tr.all_ite (fun hc=>?_) (fun hc=>?_)<;>(try simp (disch:=omega) only[nV,nW,Nat.mul_one] at hc)<;>try omega) | (refine Tr.all_req ?_ ?_;· (try simp (disch:=omega) only[nV,nW,Nat.mul_one]);try omega) | (refine Tr.all_reqP ?_ ?_;· first | exact trivial | rfl | exact ⟨rfl,rfl⟩ | exact ⟨rfl,rfl,rfl⟩ | (simp (disch:=omega) only[nV,nW,Nat.mul_one];done) | ((try simp (disch:=omega) only[nV,nW,Nat.mul_one]);omega)) | fail
   all_goals refine Tr.all_ok ?_
   · rw[if_pos (by simpa using hc)];rfl
   · rw[if_neg (by simpa using hc)]
     refine ⟨rfl,?_⟩
     rw[ej];rfl
 · obtain ⟨x,h1,rfl⟩:=ex_all (Q:=fun x=>x=(.exit 0,fr90 m z full p (Int.ofNat m)++[(9,.bool false)],lv0::H)) (t90 n H m z full p (Int.ofNat m)) (il_no0 n) (noBT_ok _ _) (noRT_ok _ _) (by
    repeat' first | (refine Tr.all_ite (fun hc=>?_) (fun hc=>?_)<;>(try simp (disch:=omega) only[nV,nW] at hc)<;>try omega) | (refine Tr.all_req ?_ ?_;· (try simp (disch:=omega) only[nV,nW]);try omega) | (refine Tr.all_reqP ?_ ?_;· first | exact trivial | rfl | exact ⟨rfl,rfl⟩ | exact ⟨rfl,rfl,rfl⟩ | (simp (disch:=omega) only[nV,nW];done) | ((try simp (disch:=omega) only[nV,nW]);omega)) | fail
    exact Tr.all_ok rfl)
   exact h1
def plL (f:Nat→Bool) (N:Nat):List Int:=((List.range N).filter f).map fun (i:Nat)=>(i:Int)-2
theorem lst_app (L:List Int) (v:Int):appO (shO (lstO L) 0) L.length (lstO [v])=lstO (L++[v]):=by
 rw[shO_zero,appO_fn,lstO_fn];funext i
 by_cases h:i<L.length
 · simp[h,List.getElem?_append]
 · by_cases h2:i=L.length
   · subst h2;simp
   · have e1:[v][i-L.length]?=none:=List.getElem?_eq_none (by simp;omega)
     have e2:(L++[v])[i]?=none:=List.getElem?_eq_none (by simp;omega)
     simp only[h,if_false,List.getD_eq_getElem?_getD,e1,e2]
section
variable (n:Nat) (w:Int) (ls ld:Nat) (zs zd:Nat→Int) (H:Heap) (sure:Bool)
theorem stJ_keep {z0:Nat→Int} {hl:Int→Int→Bool} {N i:Nat} (h:z0 i≠0):∀ j,stJ z0 hl N j i=z0 i
 | 0=>rfl
 | j+1=>by
   have ih:=stJ_keep (hl:=hl) (N:=N) h j
   unfold stJ stpS stpI
   split
   · rw[if_neg (by rw[ih];exact fun x=>h x.1)];exact ih
   · exact ih
noncomputable def jnL (w:Int) (ls ld:Nat) (zs zd:Nat→Int) (sure:Bool) (p:Int):List Int:=plL (fun i=>decide (0<stZ w ls ld zs zd sure p i)) (ls+2)
theorem plL_mem {f:Nat→Bool} {N:Nat} {q:Int}:q ∈ plL f N↔∃ i:Nat,i<N∧f i=true∧q=(i:Int)-2:=by
 unfold plL
 rw[List.mem_map]
 constructor
 · rintro ⟨i,h1,rfl⟩
   have:=List.mem_filter.1 h1
   exact ⟨i,by simpa using this.1,this.2,rfl⟩
 · rintro ⟨i,h1,h2,rfl⟩
   exact ⟨i,List.mem_filter.2 ⟨by simpa using h1,h2⟩,rfl⟩
theorem jn_self (p:Int) (hp:-2≤p∧p<ls):p ∈ jnL w ls ld zs zd sure p:=by
 refine plL_mem.2 ⟨(p+2).toNat,by omega,?_,by omega⟩
 have:st0 p (p+2).toNat=1:=by unfold st0;rw[if_pos (by omega)]
 have h2:stZ w ls ld zs zd sure p (p+2).toNat=1:=by
  unfold stZ;rw[stJ_keep (by omega),this]
 rw[h2];rfl
theorem plL_len (f:Nat→Bool) (N:Nat):(plL f N).length≤N:=by
 unfold plL;rw[List.length_map];exact Nat.le_trans (List.length_filter_le _ _) (by simp)
end
end Go.Eng
end
section
namespace Go.Eng
open Go.Proofs
set_option linter.unusedVariables false
set_option linter.unusedSimpArgs false
set_option maxRecDepth 100000
noncomputable def slF (m:Nat) (f1:Nat→Nat→Int) (f2:Nat→Nat):AV:=.slcT none (.F (fun j=>sl1 (f2 j) (f1 j) false) m) 1 m false
theorem allS_ok (f1:Nat→Nat→Int) (f2 f3:Nat→Nat) (k:IntKind) (sz:Nat) (full:Bool):allS (fun j=>.slcT none (.M [.arr k (f1 j) (f2 j)]) sz (f3 j) full) k sz full=True:=by
 rw[allS_eq]
 exact eq_true (fun j=>⟨_,_,_,rfl⟩)
def elL (Ls:List (List Int)) (j:Nat):List Int:=Ls.getD j (Ls.getLastD [])
noncomputable def el1 (Ls:List (List Int)) (j:Nat):Nat→Int:=lstO (elL Ls j)
def el2 (Ls:List (List Int)) (j:Nat):Nat:=(elL Ls j).length
theorem elL_app (Ls:List (List Int)) (l:List Int) (j:Nat):elL (Ls++[l]) j=if j<Ls.length then elL Ls j else l:=by
 unfold elL
 by_cases h:j<Ls.length
 · rw[if_pos h]
   simp[List.getElem?_append,h]
 · rw[if_neg h]
   by_cases h2:j=Ls.length
   · subst h2;simp
   · have:(Ls++[l])[j]?=none:=List.getElem?_eq_none (by simp;omega)
     simp[List.getD_eq_getElem?_getD,this]
theorem el1_app (Ls:List (List Int)) (l:List Int) (m:Nat) (hm:m=Ls.length):(fun j=>selZ (ltN j m) (el1 Ls (addO 0 j)) (lstO l))=el1 (Ls++[l]):=by
 subst hm
 funext j
 unfold el1
 rw[elL_app,selZ_eq,ltN_eq,addO_eq,Nat.zero_add]
 by_cases h:j<Ls.length
 · rw[decide_eq_true h,if_pos h];rfl
 · rw[decide_eq_false h,if_neg h];rfl
theorem el2_app (Ls:List (List Int)) (l:List Int) (m:Nat) (hm:m=Ls.length):(fun j=>selN (ltN j m) (el2 Ls (addO 0 j)) l.length)=el2 (Ls++[l]):=by
 subst hm
 funext j
 unfold el2
 rw[elL_app,selN_eq,ltN_eq,addO_eq,Nat.zero_add]
 by_cases h:j<Ls.length
 · rw[decide_eq_true h,if_pos h];rfl
 · rw[decide_eq_false h,if_neg h];rfl
theorem el_one (l:List Int):el1 [l]=(fun _=>lstO l)∧el2 [l]=fun _=>l.length:=by
 have:∀ j,elL [l] j=l:=fun j=>by
  unfold elL
  cases j<;>simp
 exact ⟨funext fun j=>by unfold el1;rw[this],funext fun j=>by unfold el2;rw[this]⟩
noncomputable def grB (w:Int) (ls ld:Nat) (zs zd:Nat→Int) (sure:Bool) (j:Nat):Bool:=!(decide (2≤j) && decide (szE false zd ld ((j:Int)-2)=0)) && decide (lstO (jnL w ls ld zs zd sure ((j:Int)-2)) 0=(j:Int)-2)
noncomputable def grL (w:Int) (ls ld:Nat) (zs zd:Nat→Int) (sure:Bool):Nat→List (List Int)
 | 0=>[]
 | j+1=>if grB w ls ld zs zd sure j=true then grL w ls ld zs zd sure j++[jnL w ls ld zs zd sure ((j:Int)-2)] else grL w ls ld zs zd sure j
theorem grL_len (w:Int) (ls ld:Nat) (zs zd:Nat→Int) (sure:Bool):∀ j,(grL w ls ld zs zd sure j).length≤j
 | 0=>Nat.le_refl _
 | j+1=>by
   have:=grL_len w ls ld zs zd sure j
   unfold grL
   split
   · simp;omega
   · omega
section
variable (n:Nat) (w:Int) (ls ld:Nat) (zs zd:Nat→Int) (H:Heap) (sure:Bool)
noncomputable def groA (w:Int) (ls ld:Nat) (zs zd:Nat→Int) (sure:Bool):AV :=
 if chkB w ls ld zs zd≠0 then .tup [.nils,.int .i64 (chkB w ls ld zs zd)]
 else .tup [slF (grL w ls ld zs zd sure (ls+2)).length (el1 (grL w ls ld zs zd sure (ls+2))) (el2 (grL w ls ld zs zd sure (ls+2))),.int .i64 0]
theorem jn_head (h0:0<ls+2):lstO (jnL w ls ld zs zd sure (-2)) 0=-2:=by
 have h2:decide (0<stZ w ls ld zs zd sure (-2) 0)=true:=by
  have:st0 (-2) 0=1:=rfl
  unfold stZ;rw[stJ_keep (by rw[this];decide),this];rfl
 unfold jnL plL
 rw[lstO_fn,List.range_succ_eq_map,List.filter_cons,h2]
 rfl
theorem gr_ne (m:Nat):grL w ls ld zs zd sure (m+1)≠[]:=by
 induction m with
 | zero =>
   have e:grB w ls ld zs zd sure 0=true:=by
    have:=jn_head w ls ld zs zd sure (by omega)
    unfold grB
    simp[this]
   show (if grB w ls ld zs zd sure 0=true then _ else _)≠[]
   rw[if_pos e];simp
 | succ m ih =>
   show (if grB w ls ld zs zd sure (m+1)=true then _ else _)≠[]
   split
   · simp
   · exact ih
end
section
variable (n:Nat) (H:Heap)
end
end Go.Eng
end
section
namespace Go.Eng
open Go.Proofs
set_option linter.unusedVariables false
set_option linter.unusedSimpArgs false
set_option maxRecDepth 100000
section
variable (n:Nat) (w:Int) (ls ld m:Nat) (zs zd z:Nat→Int) (H:Heap) (p q:Int) (sure full:Bool)
end
end Go.Eng
end
section
namespace Go.Eng
open Go.Proofs
set_option linter.unusedVariables false
set_option linter.unusedSimpArgs false
set_option maxRecDepth 100000
section
variable (n:Nat) (w k p q:Int) (ls ld:Nat) (zs zd:Nat→Int) (H:Heap)
end
end Go.Eng
end
