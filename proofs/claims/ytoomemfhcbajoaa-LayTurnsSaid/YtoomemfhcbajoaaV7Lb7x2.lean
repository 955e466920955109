/- Lay: Levels of the program. -/
import Derived.Test.YtoomemfhcbajoaaV7Lb5x2
section
namespace Go.Eng
open Go.Proofs
set_option linter.unusedVariables false
set_option linter.unusedSimpArgs false
set_option maxRecDepth 100000
noncomputable def fr17 (l:Nat) (t:Nat→Int) (k:Nat) (d g:Nat→Int) (o:AV) (j:Int):Frm:=[(4,tbA 0 l t k d g),(6,o),(19,.int .i64 (Int.ofNat l)),(20,.int .i64 j)]
noncomputable def fn81 (s l:Nat) (t:Nat→Int) (k:Nat) (d g:Nat→Int) (j:Int):AV:=.fn (.func 81) [] [.ptrT none (.I .i64 [j]) 0,.ptrT (some 0) (.G [tbA s l t k d g]) 0]
noncomputable def fr17r (l:Nat) (t:Nat→Int) (k:Nat) (d g:Nat→Int) (o:AV) (c:Nat) (j:Int):Frm:=[(4,tbA 0 l t k d g),(6,o),(8,.ptr 0 c 0 0),(19,.int .i64 (Int.ofNat l)),(20,.int .i64 j),(25,fn81 0 l t k d g j)]
noncomputable def bxS (l:Nat) (t:Nat→Int) (k:Nat) (d:Nat→Int):Nat×Blk:=(0,.row (.G [sl1 l t false,sl1 k d false]))
noncomputable def cel (x:Int):Nat×Blk:=(0,.row (.I .i64 [x]))
noncomputable def rwO (m:Nat) (y:Nat→Int):Nat×Blk:=(0,.row (.M [.arr .i64 y m]))
noncomputable def fr17u (l:Nat) (t:Nat→Int) (k:Nat) (d g:Nat→Int) (o:AV) (c:Nat) (j x:Int):Frm:=[(4,tbA 2 l t k d g),(6,o),(8,.ptr 2 c 0 0),(19,.int .i64 (Int.ofNat l)),(20,.int .i64 j),(25,.fn (.func 81) [] [.ptrT none (.I .i64 [j]) 0,.ptrT (some 2) (.G [tbA 0 l t k d g]) 0]),(26,.int .i64 x)]
theorem t17ra (n l k:Nat) (t d g:Nat→Int) (L:ALoop) (H:Heap) (j x c:Int):execT (cxR n 17 40 2 2) (il noCt n 0) noBT noRT (part Try.f17 [1,1,1,1,0,1,0,0,1,1,0,0,1,1,0,1,0,1]) (hints (fr17u l t k d g .nils 1 j x)) (lvE::lvE::⟨false,[bxS l t k d,cel c,(0,.loop L)]⟩::H) =
 Tr.ok (Ex.normal,[],lvE::lvE::{ lock:=false,bs:=[(0,Blk.row (Row.G [AV.slcT none (Row.M [Seg.arr .i64 t l]) 1 l false,AV.slcT none (Row.M [Seg.arr .i64 d k]) 1 k false])),(0,Blk.row (Row.I .i64 [addI .i64 c (Int.ofNat 1)])),(0,Blk.loop L)] } :: H):=by kernel_rfl
theorem t17rb (n l k m:Nat) (t d g y:Nat→Int) (L:ALoop) (H:Heap) (j x c:Int):execT (cxR n 17 40 2 3) (il noCt n 0) noBT noRT (part Try.f17 [1,1,1,1,0,1,0,0,1,1,0,0,1,1,0,1,0,1]) (hints (fr17u l t k d g (.slc 2 1 0 0 1 m none) 2 j x)) (lvE::lvE::⟨false,[bxS l t k d,rwO m y,cel c,(0,.loop L)]⟩::H) =
 Tr.ok (Ex.normal,[],lvE::lvE::{ lock:=false,bs:=[(0,Blk.row (Row.G [AV.slcT none (Row.M [Seg.arr .i64 t l]) 1 l false,AV.slcT none (Row.M [Seg.arr .i64 d k]) 1 k false])),(0,Blk.row (Row.M [Seg.arr .i64 y m])),(0,Blk.row (Row.I .i64 [addI .i64 c (Int.ofNat 1)])),(0,Blk.loop L)] } :: H):=by kernel_rfl
theorem t17a (n l k:Nat) (t d g:Nat→Int) (H:Heap) (j N:Int):execT (cxD (n+1) 17 40) (il noCt n 1) noBT (rgE noRT (fun _=>true) (fr17r l t k d g .nils 1 j) (⟨false,[bxS l t k d,cel 0]⟩::H) (.ok (.normal,hints (fr17r l t k d g .nils 1 j),⟨false,[bxS l t k d,cel N,(0,.dead)]⟩::H))) (part Try.f17 [1,1,1,1,0,1,0,0]) (hints (fr17 l t k d g .nils j)) (⟨false,[bxS l t k d]⟩::H) =
 (fun (Z0:Row)=>((fun (Z1:Nat×Blk)=>((fun (Z2:Frm)=>Tr.ite (ltI j (Int.ofNat l)) (Tr.reqP (Z2=Z2∧{ lock:=false,bs:=[Z1,(0,Blk.row (Row.I .i64 [Int.ofNat 0]))] } :: H={ lock:=false,bs:=[Z1,(0,Blk.row (Row.I .i64 [Int.ofNat 0]))] } :: H) (Tr.req (bndI (Int.ofNat 0) 0) (Tr.req (bndI (Int.ofNat 0) (toN (Int.ofNat 0))) (Tr.req (roomO 0 1 8) (Tr.req (eqN 0 0) (Tr.req (leN 1 1) (Tr.ok (Ex.normal,[(4,AV.ptrT (some 0) Z0 0,none),(6,AV.slc 0 4 0 0 1 1 none,none),(19,AV.int .i64 (Int.ofNat l),none),(20,AV.int .i64 (addI .i64 j (Int.ofNat 1)),none)],{ lock:=false,bs:=[Z1,(0,Blk.row (Row.I .i64 [N])),(0,Blk.dead),(0,Blk.row (Row.I .i64 [N])),(0,Blk.row (Row.M [Seg.arr .i64 (lstO [N]) 1]))] } :: H)))))))) (Tr.ok (Ex.exit 0,[(4,AV.ptrT (some 0) Z0 0,none),(6,AV.nils,none),(19,AV.int .i64 (Int.ofNat l),none),(20,AV.int .i64 j,none),(21,AV.bool false,some 1)],{ lock:=false,bs:=[Z1] } :: H))) [(4,AV.ptrT (some 0) Z0 0),(6,AV.nils),(8,AV.ptr 0 1 0 0),(19,AV.int .i64 (Int.ofNat l)),(20,AV.int .i64 j),(25,AV.fn (Fn.func 81) [] [AV.ptrT none (Row.I .i64 [j]) 0,AV.ptrT (some 0) (Row.G [AV.ptrT (some 0) Z0 0]) 0])])) (0,Blk.row (Row.G [AV.slcT none (Row.M [Seg.arr .i64 t l]) 1 l false,AV.slcT none (Row.M [Seg.arr .i64 d k]) 1 k false])))) (Row.M [Seg.one (AV.slcT none (Row.M [Seg.arr .i64 t l]) 1 l false),Seg.one (AV.slcT none (Row.M [Seg.arr .i64 d k]) 1 k false),Seg.arr .i64 g 30]):=by kernel_rfl
theorem t17b (n l k m:Nat) (t d g y:Nat→Int) (H:Heap) (j N:Int):execT (cxD (n+1) 17 40) (il noCt n 1) noBT (rgE noRT (fun _=>true) (fr17r l t k d g (.slc 0 1 0 0 1 m none) 2 j) (⟨false,[bxS l t k d,rwO m y,cel 0]⟩::H) (.ok (.normal,hints (fr17r l t k d g (.slc 0 1 0 0 1 m none) 2 j),⟨false,[bxS l t k d,rwO m y,cel N,(0,.dead)]⟩::H))) (part Try.f17 [1,1,1,1,0,1,0,0]) (hints (fr17 l t k d g (.slc 0 1 0 0 1 m none) j)) (⟨false,[bxS l t k d,rwO m y]⟩::H) =
 (fun (Z0:Row)=>((fun (Z1:Nat×Blk)=>((fun (Z2:Frm)=>((fun (Z3:Lvl)=>Tr.ite (ltI j (Int.ofNat l)) (Tr.reqP (Z2=Z2∧Z3::H=Z3::H) (Tr.req (bndI (Int.ofNat m) m) (Tr.req (bndI (Int.ofNat m) (toN (Int.ofNat m))) (Tr.req (roomO (toN (Int.ofNat m)) 1 8) (Tr.req (eqN 0 0) (Tr.req (leN 1 1) (Tr.ite (ltN (toN (Int.ofNat m)) (addO (toN (Int.ofNat m)) 1)) (Tr.req (eqN 0 0) (Tr.req (leN (toN (Int.ofNat m)) (toN (Int.ofNat m))) (Tr.req (inO 0 (toN (Int.ofNat m)) 0 m) (Tr.ok (Ex.normal,[(4,AV.ptrT (some 0) Z0 0,none),(6,AV.slc 0 5 0 0 1 (addO (toN (Int.ofNat m)) 1) none,none),(19,AV.int .i64 (Int.ofNat l),none),(20,AV.int .i64 (addI .i64 j (Int.ofNat 1)),none)],{ lock:=false,bs:=[Z1,(0,Blk.row (Row.M [Seg.arr .i64 y m])),(0,Blk.row (Row.I .i64 [N])),(0,Blk.dead),(0,Blk.row (Row.I .i64 [N])),(0,Blk.row (Row.M [Seg.arr .i64 (appO (shO y 0) (toN (Int.ofNat m)) (lstO [N])) (addO (toN (Int.ofNat m)) 1)]))] } :: H))))) (Tr.req (eqN 0 0) (Tr.req (ltN (addO 0 (toN (Int.ofNat m))) m) (Tr.req (andB (leN 0 0) (leN 0 1)) (Tr.ok (Ex.normal,[(4,AV.ptrT (some 0) Z0 0,none),(6,AV.slc 0 1 0 0 1 (addO (toN (Int.ofNat m)) 1) (some (toN (Int.ofNat m))),none),(19,AV.int .i64 (Int.ofNat l),none),(20,AV.int .i64 (addI .i64 j (Int.ofNat 1)),none)],{ lock:=false,bs:=[Z1,(0,Blk.row (Row.M [Seg.arr .i64 (updO y (addO 0 (toN (Int.ofNat m))) N) m])),(0,Blk.row (Row.I .i64 [N])),(0,Blk.dead),(0,Blk.row (Row.I .i64 [N])),(0,Blk.dead)] } :: H)))))))))))) (Tr.ok (Ex.exit 0,[(4,AV.ptrT (some 0) Z0 0,none),(6,AV.slc 0 1 0 0 1 m none,none),(19,AV.int .i64 (Int.ofNat l),none),(20,AV.int .i64 j,none),(21,AV.bool false,some 1)],{ lock:=false,bs:=[Z1,(0,Blk.row (Row.M [Seg.arr .i64 y m]))] } :: H))) { lock:=false,bs:=[Z1,(0,Blk.row (Row.M [Seg.arr .i64 y m])),(0,Blk.row (Row.I .i64 [Int.ofNat 0]))] })) [(4,AV.ptrT (some 0) Z0 0),(6,AV.slc 0 1 0 0 1 m none),(8,AV.ptr 0 2 0 0),(19,AV.int .i64 (Int.ofNat l)),(20,AV.int .i64 j),(25,AV.fn (Fn.func 81) [] [AV.ptrT none (Row.I .i64 [j]) 0,AV.ptrT (some 0) (Row.G [AV.ptrT (some 0) Z0 0]) 0])])) (0,Blk.row (Row.G [AV.slcT none (Row.M [Seg.arr .i64 t l]) 1 l false,AV.slcT none (Row.M [Seg.arr .i64 d k]) 1 k false])))) (Row.M [Seg.one (AV.slcT none (Row.M [Seg.arr .i64 t l]) 1 l false),Seg.one (AV.slcT none (Row.M [Seg.arr .i64 d k]) 1 k false),Seg.arr .i64 g 30]):=by kernel_rfl
theorem t17x (n l k m:Nat) (t d g y:Nat→Int) (H:Heap) (j:Int):execT (cxD (n+1) 17 40) (il noCt n 1) noBT (rgE noRT (fun _=>true) [] [] .bad) (part Try.f17 [1,1,1,1,0,1,0,0]) (hints (fr17 l t k d g (.slc 0 1 0 0 1 m none) j)) (⟨false,[bxS l t k d,rwO m y]⟩::H) =
 (fun (Z0:Row)=>((fun (Z1:Nat×Blk)=>Tr.ite (ltI j (Int.ofNat l)) (Tr.reqP ([(4,AV.ptrT (some 0) Z0 0),(6,AV.slc 0 1 0 0 1 m none),(8,AV.ptr 0 2 0 0),(19,AV.int .i64 (Int.ofNat l)),(20,AV.int .i64 j),(25,AV.fn (Fn.func 81) [] [AV.ptrT none (Row.I .i64 [j]) 0,AV.ptrT (some 0) (Row.G [AV.ptrT (some 0) Z0 0]) 0])]=[]∧{ lock:=false,bs:=[Z1,(0,Blk.row (Row.M [Seg.arr .i64 y m])),(0,Blk.row (Row.I .i64 [Int.ofNat 0]))] } :: H=[]) Tr.bad) (Tr.ok (Ex.exit 0,[(4,AV.ptrT (some 0) Z0 0,none),(6,AV.slc 0 1 0 0 1 m none,none),(19,AV.int .i64 (Int.ofNat l),none),(20,AV.int .i64 j,none),(21,AV.bool false,some 1)],{ lock:=false,bs:=[Z1,(0,Blk.row (Row.M [Seg.arr .i64 y m]))] } :: H))) (0,Blk.row (Row.G [AV.slcT none (Row.M [Seg.arr .i64 t l]) 1 l false,AV.slcT none (Row.M [Seg.arr .i64 d k]) 1 k false])))) (Row.M [Seg.one (AV.slcT none (Row.M [Seg.arr .i64 t l]) 1 l false),Seg.one (AV.slcT none (Row.M [Seg.arr .i64 d k]) 1 k false),Seg.arr .i64 g 30]):=by kernel_rfl
theorem u51 (n l k:Nat) (t d g:Nat→Int) (H:Heap):bodyT Try.prog (cd n) 100000 51 Try.f51 (KtL.kt 51) (il (tX (tX noCt 21 [shA l t k d] (.int .i64 0)) 57 [shA l t k d] (tbA 0 l t k d g)) n 0) noBT noRT [(shA l t k d,none)] H =
 (fun (Z0:List AV)=>Tr.reqP (Z0=Z0) (Tr.ite (notB (eqI (Int.ofNat 0) (Int.ofNat 0))) (Tr.ok ((AV.tup [AV.nilp,AV.int .i64 (Int.ofNat 0)],none),H)) (Tr.reqP (Z0=Z0) (Tr.ok ((AV.tup [AV.ptrT (some 0) (Row.M [Seg.one (AV.slcT none (Row.M [Seg.arr .i64 t l]) 1 l false),Seg.one (AV.slcT none (Row.M [Seg.arr .i64 d k]) 1 k false),Seg.arr .i64 g 30]) 0,AV.int .i64 (Int.ofNat 0)],none),H))))) [AV.agg (Row.G [AV.slcT none (Row.M [Seg.arr .i64 t l]) 1 l false,AV.slcT none (Row.M [Seg.arr .i64 d k]) 1 k false])]:=by kernel_rfl
theorem u51s (n l k:Nat) (t d:Nat→Int) (e:Int) (H:Heap):bodyT Try.prog (cd n) 100000 51 Try.f51 (KtL.kt 51) (il (tX noCt 21 [shA l t k d] (.int .i64 e)) n 0) noBT noRT [(shA l t k d,none)] H =
 (fun (Z0:List AV)=>Tr.reqP (Z0=Z0) (Tr.ite (notB (eqI e (Int.ofNat 0))) (Tr.ok ((AV.tup [AV.nilp,AV.int .i64 e],none),H)) Tr.bad)) [AV.agg (Row.G [AV.slcT none (Row.M [Seg.arr .i64 t l]) 1 l false,AV.slcT none (Row.M [Seg.arr .i64 d k]) 1 k false])]:=by kernel_rfl
theorem u17s (n l k:Nat) (t d:Nat→Int) (e:Int) (H:Heap):bodyT Try.prog (cd n) 100000 17 Try.f17 (KtL.kt 17) (il (tX noCt 51 [shA l t k d] (.tup [.nilp,.int .i64 e])) n 0) noBT noRT [(shA l t k d,none)] H =
 (fun (Z0:List AV)=>Tr.reqP (Z0=Z0) (Tr.ite (notB (eqI e (Int.ofNat 0))) (Tr.ok ((AV.tup [AV.nils,AV.int .i64 e],none),H)) (Tr.ite (ltI (Int.ofNat 0) (Int.ofNat l)) Tr.bad (Tr.ok ((AV.tup [AV.nils,AV.int .i64 (Int.ofNat 0)],none),H))))) [AV.agg (Row.G [AV.slcT none (Row.M [Seg.arr .i64 t l]) 1 l false,AV.slcT none (Row.M [Seg.arr .i64 d k]) 1 k false])]:=by kernel_rfl
theorem u17 (n l k q:Nat) (t d g y:Nat→Int) (H:Heap):bodyT Try.prog (cd n) 100000 17 Try.f17 (KtL.kt 17) (il (tX noCt 51 [shA l t k d] (.tup [tbA 0 l t k d g,.int .i64 0])) n 0) (blkE noBT 0 (fr17 l t k d g .nils 0) (⟨false,[bxS l t k d]⟩::H) (.ok (.normal,hints (fr17 l t k d g (.slc 0 1 0 0 1 (q+1) none) (Int.ofNat l)++[(21,.bool false)]),⟨false,[bxS l t k d,rwO (q+1) y]⟩::H))) noRT [(shA l t k d,none)] H =
 (fun (Z0:Row)=>((fun (Z1:Frm)=>Tr.reqP ([AV.agg Z0]=[AV.agg Z0]) (Tr.ite (notB (eqI (Int.ofNat 0) (Int.ofNat 0))) (Tr.ok ((AV.tup [AV.nils,AV.int .i64 (Int.ofNat 0)],none),H)) (Tr.reqP (Z1=Z1∧{ lock:=false,bs:=[(0,Blk.row Z0)] } :: H={ lock:=false,bs:=[(0,Blk.row Z0)] } :: H) (Tr.req (eqN 0 0) (Tr.req (inO 0 (Nat.succ q) 0 (Nat.succ q)) (Tr.ok ((AV.tup [AV.slcT none (Row.M [Seg.arr .i64 (shO y 0) (Nat.succ q)]) 1 (Nat.succ q) false,AV.int .i64 (Int.ofNat 0)],none),H))))))) [(4,AV.ptrT (some 0) (Row.M [Seg.one (AV.slcT none (Row.M [Seg.arr .i64 t l]) 1 l false),Seg.one (AV.slcT none (Row.M [Seg.arr .i64 d k]) 1 k false),Seg.arr .i64 g 30]) 0),(6,AV.nils),(19,AV.int .i64 (Int.ofNat l)),(20,AV.int .i64 (Int.ofNat 0))])) (Row.G [AV.slcT none (Row.M [Seg.arr .i64 t l]) 1 l false,AV.slcT none (Row.M [Seg.arr .i64 d k]) 1 k false]):=by kernel_rfl
theorem b17:∀ b,(0,b) ∈ blocksOf (bodyOf Try.f17)→b=.loop (part Try.f17 [1,1,1,1,0,1,0,0]):=by
 have:((blocksOf (bodyOf Try.f17)).filter fun x=>Nat.beq x.1 0)=[(0,.loop (part Try.f17 [1,1,1,1,0,1,0,0]))]:=by kernel_rfl
 intro b hb
 have hm:(0,b) ∈ ((blocksOf (bodyOf Try.f17)).filter fun x=>Nat.beq x.1 0):=List.mem_filter.2 ⟨hb,rfl⟩
 rw[this] at hm;simpa using hm
noncomputable def lAs:Code:=part Try.f17 [1,1,1,1,0,1,0,0,1,1,0,0,1,1,0,1,0,0]
noncomputable def lBd:Code:=part Try.f17 [1,1,1,1,0,1,0,0,1,1,0,0,1,1,0,1,0,1]
theorem r17:rangesOf (part Try.f17 [1,1,1,1,0,1,0,0])=[(.tmp 25,#[26],lAs,lBd)]:=by kernel_rfl
noncomputable def rec17 (l:Nat) (t:Nat→Int) (k:Nat) (d g:Nat→Int) (o:AV) (c:Nat) (j:Int):ALoop:={ state:=.ready,pending:=none,fn:=17,nt:=40,fr:=fr17r l t k d g o c j,params:=[26],assign:=lAs,body:=lBd }
def lsN (l:Nat) (t:Nat→Int) (j:Nat):List Int:=(List.range j).map fun i=>(lvN l t i:Int)
theorem lsN_len (l:Nat) (t:Nat→Int) (j:Nat):(lsN l t j).length=j:=by simp[lsN]
theorem lsN_suc (l:Nat) (t:Nat→Int) (j:Nat):lsN l t (j+1)=lsN l t j++[(lvN l t j:Int)]:=by simp[lsN,List.range_succ]
noncomputable def o17:Nat→AV
 | 0=>.nils
 | m+1=>.slc 0 1 0 0 1 (m+1) none
noncomputable def lv17 (l:Nat) (t:Nat→Int) (k:Nat) (d:Nat→Int):Nat→Lvl
 | 0=>⟨false,[bxS l t k d]⟩
 | m+1=>⟨false,[bxS l t k d,rwO (m+1) (lstO (lsN l t (m+1)))]⟩
theorem lAs_skip (cx:Cx) (fr:Frm) (H:Heap):exec cx lAs fr H=some (.normal,fr,H):=by
 have:lAs=.skip:=by kernel_rfl
 rw[this];rfl
theorem round_sk {n d i:Nat} {args:List AV} {H H2 R:Heap} {l l2:ALoop} {fr fr2:Frm} {lv:Lvl} (ha:∀ cx fr H,exec cx l.assign fr H=some (.normal,fr,H))
 (hg:hGet H d i=(0,.loop l)) (hl:hLock H d=false) (hs:l.state=.ready) (hp:putPs l.nt (upFrm (d+1) l.fr) l.params (args.map (upV 1))=some fr)
 (h2:exec (cxR n l.fn l.nt (d+1) i) l.body fr (hSet (lvE::H) (d+1) i (0,.loop { l with state:=.busy }))=some (.normal,fr2,lv::H2)) (hg2:hGet H2 d i=(0,.loop l2)) (hR:R=hSet H2 d i (0,.loop { l2 with state:=.ready,pending:=none })) :
 cd (n+1) (.round d i) args H=some (.bool true,R):=by
 rw[hR]
 exact round_of (P:=Try.prog) (ora:=oraD) (KT:=KtL.kt) (fu:=100000) (e:=.normal) hg hl hs hp (ha _ _ _) (by rw[show hGet ((⟨false,[]⟩:Lvl)::H) (d+1) i=hGet H d i from rfl];exact hg) hs h2 hg2
section
variable (n l k m:Nat) (t d g y:Nat→Int) (H:Heap) (i:Nat)
theorem rd17a (j x:Int) (c:Nat) (hc:c≤1000):cd (n+1) (.round 1 2) [.int .i64 x] (lvE::⟨false,[bxS l t k d,cel (c:Nat),(0,.loop (rec17 l t k d g .nils 1 j))]⟩::H)=some (.bool true,lvE::⟨false,[bxS l t k d,cel ((c+1:Nat):Int),(0,.loop (rec17 l t k d g .nils 1 j))]⟩::H):=by
 have hb:exec (cxR n 17 40 2 2) lBd (fr17u l t k d g .nils 1 j x) (lvE::lvE::⟨false,[bxS l t k d,cel (c:Nat),(0,.loop { rec17 l t k d g .nils 1 j with state:=.busy })]⟩::H)=some (.normal,[],lvE::lvE::⟨false,[bxS l t k d,cel ((c+1:Nat):Int),(0,.loop { rec17 l t k d g .nils 1 j with state:=.busy })]⟩::H):=by
  have:=execT_ok (cx:=cxR n 17 40 2 2) (il_no0 n) lBd (noBT_ok _ _) (noRT_ok _ _) (hints (fr17u l t k d g .nils 1 j x)) (lvE::lvE::⟨false,[bxS l t k d,cel (c:Nat),(0,.loop { rec17 l t k d g .nils 1 j with state:=.busy })]⟩::H) (.normal,[],lvE::lvE::⟨false,[bxS l t k d,cel ((c+1:Nat):Int),(0,.loop { rec17 l t k d g .nils 1 j with state:=.busy })]⟩::H) (by
   unfold lBd
   rw[t17ra,cs64 (j:=c) (by omega)];rfl)
  exact this
 exact round_sk (l:=rec17 l t k d g .nils 1 j) (l2:={ rec17 l t k d g .nils 1 j with state:=.busy }) lAs_skip rfl rfl rfl rfl hb rfl rfl
theorem rd17b (j x:Int) (c:Nat) (hc:c≤1000):cd (n+1) (.round 1 3) [.int .i64 x] (lvE::⟨false,[bxS l t k d,rwO m y,cel (c:Nat),(0,.loop (rec17 l t k d g (.slc 0 1 0 0 1 m none) 2 j))]⟩::H)=some (.bool true,lvE::⟨false,[bxS l t k d,rwO m y,cel ((c+1:Nat):Int),(0,.loop (rec17 l t k d g (.slc 0 1 0 0 1 m none) 2 j))]⟩::H):=by
 have hb:exec (cxR n 17 40 2 3) lBd (fr17u l t k d g (.slc 2 1 0 0 1 m none) 2 j x) (lvE::lvE::⟨false,[bxS l t k d,rwO m y,cel (c:Nat),(0,.loop { rec17 l t k d g (.slc 0 1 0 0 1 m none) 2 j with state:=.busy })]⟩::H)=some (.normal,[],lvE::lvE::⟨false,[bxS l t k d,rwO m y,cel ((c+1:Nat):Int),(0,.loop { rec17 l t k d g (.slc 0 1 0 0 1 m none) 2 j with state:=.busy })]⟩::H):=by
  have:=execT_ok (cx:=cxR n 17 40 2 3) (il_no0 n) lBd (noBT_ok _ _) (noRT_ok _ _) (hints (fr17u l t k d g (.slc 2 1 0 0 1 m none) 2 j x)) (lvE::lvE::⟨false,[bxS l t k d,rwO m y,cel (c:Nat),(0,.loop { rec17 l t k d g (.slc 0 1 0 0 1 m none) 2 j with state:=.busy })]⟩::H) (.normal,[],lvE::lvE::⟨false,[bxS l t k d,rwO m y,cel ((c+1:Nat):Int),(0,.loop { rec17 l t k d g (.slc 0 1 0 0 1 m none) 2 j with state:=.busy })]⟩::H) (by
   unfold lBd
   rw[t17rb,cs64 (j:=c) (by omega)];rfl)
  exact this
 exact round_sk (l:=rec17 l t k d g (.slc 0 1 0 0 1 m none) 2 j) (l2:={ rec17 l t k d g (.slc 0 1 0 0 1 m none) 2 j with state:=.busy }) lAs_skip rfl rfl rfl rfl hb rfl rfl
theorem x17a (hl:l≤30) (ht:∀ j,j<l→t j<l) (hi:i<l) (hc:cycB l t=false):exec (cxD (n+2) 17 40) (.rangeFunc (.tmp 25) #[26] lAs lBd) (fr17r l t k d g .nils 1 (i:Nat)) (⟨false,[bxS l t k d,cel 0]⟩::H)=some (.normal,fr17r l t k d g .nils 1 (i:Nat),⟨false,[bxS l t k d,cel (lvN l t i:Nat),(0,.dead)]⟩::H):=by
 obtain ⟨e1,e2,e3⟩:=cyc_lv hc i hi
 exact range_of (cx:=cxD (n+2) 17 40) (l:=rec17 l t k d g .nils 1 (i:Nat)) (f:=.tmp 25) (ps:=#[26]) (fr:=fr17r l t k d g .nils 1 (i:Nat)) (H:=⟨false,[bxS l t k d,cel 0]⟩::H) (g:=81) (a:=[]) (b:=[.ptrT none (.I .i64 [(i:Int)]) 0,.ptrT (some 0) (.G [tbA 0 l t k d g]) 0]) rfl rfl rfl
  (c81_2 (n+1) l k t d g i (lvN l t i) (fun c=>⟨false,[bxS l t k d,cel (c:Nat),(0,.loop (rec17 l t k d g .nils 1 (i:Nat)))]⟩::H) (by omega) e2 e3 ht (by omega) hi (fun c hc=>rd17a n l k t d g H _ _ c (by omega))) rfl rfl rfl
theorem x17b (hl:l≤30) (ht:∀ j,j<l→t j<l) (hi:i<l) (hc:cycB l t=false):exec (cxD (n+2) 17 40) (.rangeFunc (.tmp 25) #[26] lAs lBd) (fr17r l t k d g (.slc 0 1 0 0 1 m none) 2 (i:Nat)) (⟨false,[bxS l t k d,rwO m y,cel 0]⟩::H)=some (.normal,fr17r l t k d g (.slc 0 1 0 0 1 m none) 2 (i:Nat),⟨false,[bxS l t k d,rwO m y,cel (lvN l t i:Nat),(0,.dead)]⟩::H):=by
 obtain ⟨e1,e2,e3⟩:=cyc_lv hc i hi
 exact range_of (cx:=cxD (n+2) 17 40) (l:=rec17 l t k d g (.slc 0 1 0 0 1 m none) 2 (i:Nat)) (f:=.tmp 25) (ps:=#[26]) (fr:=fr17r l t k d g (.slc 0 1 0 0 1 m none) 2 (i:Nat)) (H:=⟨false,[bxS l t k d,rwO m y,cel 0]⟩::H) (g:=81) (a:=[]) (b:=[.ptrT none (.I .i64 [(i:Int)]) 0,.ptrT (some 0) (.G [tbA 0 l t k d g]) 0]) rfl rfl rfl
  (c81_3 (n+1) l k t d g i (lvN l t i) (fun c=>⟨false,[bxS l t k d,rwO m y,cel (c:Nat),(0,.loop (rec17 l t k d g (.slc 0 1 0 0 1 m none) 2 (i:Nat)))]⟩::H) (by omega) e2 e3 ht (by omega) hi (fun c hc=>rd17b n l k m t d g y H _ _ c (by omega))) rfl rfl rfl
theorem l17 (hl:l≤30) (h0:0<l) (ht:∀ j,j<l→t j<l) (hc:cycB l t=false):exec (cxD (n+2) 17 40) (.block 0 (.loop (part Try.f17 [1,1,1,1,0,1,0,0]))) (fr17 l t k d g .nils 0) (⟨false,[bxS l t k d]⟩::H)=some (.normal,fr17 l t k d g (o17 l) (Int.ofNat l)++[(21,.bool false)],lv17 l t k d l::H):=by
 refine forX (n:=n+2) (f:=17) (nt:=40) (c:=part Try.f17 [1,1,1,1,0,1,0,0]) 0 (fun j=>fr17 l t k d g (o17 j) (j:Nat)) (fun j=>lv17 l t k d j::H) l (fr17 l t k d g (o17 l) (Int.ofNat l)++[(21,.bool false)],lv17 l t k d l::H) (by omega) (fun j hj=>?_) ?_
 · cases j with
   | zero =>
     have hx:=x17a n l k t d g H 0 hl ht hj hc
     refine ex_all (t17a (n+1) l k t d g H 0 (lvN l t 0:Nat)) (il_no (n+1) 1) (noBT_ok _ _) (rgE_ok (noRT_ok _ _) (fun f ps a b _ hm x hx2=>?_)) ?_
     · rw[r17] at hm
       simp only[List.mem_cons,Prod.mk.injEq,List.not_mem_nil,or_false] at hm
       obtain ⟨rfl,rfl,rfl,rfl⟩:=hm
       rw[← Tr.ok_some hx2];exact hx
     · show Tr.all _ (fun x=>_∧tidy _ _ _=(fr17 l t k d g (.slc 0 1 0 0 1 1 none) ((0+1:Nat):Int),⟨false,[bxS l t k d,rwO 1 (lstO (lsN l t 1))]⟩::H))
       rw[show lsN l t 1=[(lvN l t 0:Int)] from rfl]
       generalize ((lvN l t 0:Nat):Int)=N
       rw[show addI .i64 0 (Int.ofNat 1)=((0+1:Nat):Int) from cs64 (j:=0) (by omega)]
       repeat' first | (refine Tr.all_ite (fun hc=>?_) (fun hc=>?_)<;>(try simp (disch:=omega) only[nV,nW] at hc)<;>try omega) | (refine Tr.all_req ?_ ?_;· (try simp (disch:=omega) only[nV,nW]);try omega) | (refine Tr.all_reqP ?_ ?_;· first | exact trivial | rfl | exact ⟨rfl,rfl⟩ | exact ⟨rfl,rfl,rfl⟩ | (simp (disch:=omega) only[nV,nW];done) | ((try simp (disch:=omega) only[nV,nW]);omega)) | fail
       all_goals refine Tr.all_ok ⟨rfl,?_⟩
       rfl
   | succ j =>
     have hx:=x17b n l k (j+1) t d g (lstO (lsN l t (j+1))) H (j+1) hl ht hj hc
     refine ex_all (t17b (n+1) l k (j+1) t d g (lstO (lsN l t (j+1))) H ((j+1:Nat):Int) (lvN l t (j+1):Nat)) (il_no (n+1) 1) (noBT_ok _ _) (rgE_ok (noRT_ok _ _) (fun f ps a b _ hm x hx2=>?_)) ?_
     · rw[r17] at hm
       simp only[List.mem_cons,Prod.mk.injEq,List.not_mem_nil,or_false] at hm
       obtain ⟨rfl,rfl,rfl,rfl⟩:=hm
       rw[← Tr.ok_some hx2];exact hx
     · show Tr.all _ (fun x=>_∧tidy _ _ _=(fr17 l t k d g (.slc 0 1 0 0 1 (j+1+1) none) ((j+1+1:Nat):Int),⟨false,[bxS l t k d,rwO (j+1+1) (lstO (lsN l t (j+1+1)))]⟩::H))
       have hap:=lst_app (lsN l t (j+1)) (lvN l t (j+1):Nat)
       rw[← lsN_suc l t (j+1),lsN_len] at hap
       have hap2:appO (shO (lstO (lsN l t (j+1))) 0) (toN (Int.ofNat (j+1))) (lstO [(lvN l t (j+1):Int)])=lstO (lsN l t (j+1+1)):=by rw[toN_eq];exact hap
       clear hap
       have ea:addO (toN (Int.ofNat (j+1))) 1=j+1+1:=by rw[addO_eq,toN_eq];rfl
       rw[cs64 (j:=j+1) (by omega),hap2,ea]
       generalize ((lvN l t (j+1):Nat):Int)=N at *
       generalize lstO (lsN l t (j+1+1))=Y2 at *
       generalize lstO (lsN l t (j+1))=Y at *
       repeat' first | (refine Tr.all_ite (fun hc=>?_) (fun hc=>?_)<;>(try simp (disch:=omega) only[nV,nW] at hc)<;>try omega) | (refine Tr.all_req ?_ ?_;· (try simp (disch:=omega) only[nV,nW]);try omega) | (refine Tr.all_reqP ?_ ?_;· first | exact trivial | rfl | exact ⟨rfl,rfl⟩ | exact ⟨rfl,rfl,rfl⟩ | (simp (disch:=omega) only[nV,nW];done) | ((try simp (disch:=omega) only[nV,nW]);omega)) | fail
       all_goals first
        | exact Tr.all_ok ⟨rfl,rfl⟩
        | fail
 · obtain ⟨q,rfl⟩:∃ q,l=q+1:=⟨l-1,by omega⟩
   obtain ⟨x,h1,rfl⟩:=ex_all (Q:=fun x=>x=(.exit 0,fr17 (q+1) t k d g (o17 (q+1)) (Int.ofNat (q+1))++[(21,.bool false)],lv17 (q+1) t k d (q+1)::H)) (t17x (n+1) (q+1) k (q+1) t d g (lstO (lsN (q+1) t (q+1))) H (Int.ofNat (q+1))) (il_no (n+1) 1) (noBT_ok _ _) (rgE_ok (noRT_ok _ _) (fun f ps a b _ hm x hx2=>(Tr.bad_some hx2).elim)) (by
    refine Tr.all_ite (fun hc=>?_) (fun hc=>Tr.all_ok rfl)
    simp (disch:=omega) only[nV,nW] at hc;omega)
   exact h1
end
end Go.Eng
end
section
namespace Go.Eng
open Go.Proofs
set_option linter.unusedVariables false
set_option linter.unusedSimpArgs false
set_option maxRecDepth 100000
structure Sh (l:Nat) (t:Nat→Int) (k:Nat) (d:Nat→Int):Prop where
 l1:1≤l
 l30:l≤30
 kl:k=l
 tl:∀ j,j<l→t j<l
 tm:∀ j,j<l→-1≤t j
 tj:∀ j,j<l→t j≠(j:Int)
 d1:∀ j,j<l→1≤d j
 d40:∀ j,j<l→d j≤40
 cyc:cycB l t=false
theorem sh_of {l k:Nat} {t d:Nat→Int} (h:shE l t k d=0):Sh l t k d:=by
 unfold shE at h
 by_cases h1:l<1∨30<l
 · rw[if_pos h1] at h;omega
 rw[if_neg h1] at h
 by_cases h2:k≠l
 · rw[if_pos h2] at h;omega
 rw[if_neg h2] at h
 cases h3:exN (badS l t d) l with
 | true=>rw[h3,if_pos rfl] at h;omega
 | false =>
   rw[h3,if_neg (by decide)] at h
   cases h4:cycB l t with
   | true=>rw[h4,if_pos rfl] at h;omega
   | false =>
     have g:=exN_not h3
     have key:∀ j,j<l→(-1≤t j∧t j≤(l:Int)-1)∧t j≠(j:Int)∧1≤d j∧d j≤40:=fun j hj=>by
      have:=g j hj
      simp only[badS,outB,Bool.or_eq_false_iff,decide_eq_false_iff_not] at this
      exact ⟨⟨by omega,by omega⟩,by omega,by omega,by omega⟩
     exact ⟨by omega,by omega,by omega,fun j hj=>by have:=(key j hj).1;omega,fun j hj=>(key j hj).1.1,fun j hj=>(key j hj).2.1,fun j hj=>(key j hj).2.2.1,fun j hj=>(key j hj).2.2.2,h4⟩
theorem sh_to {l k:Nat} {t d:Nat→Int} (h:Sh l t k d):shE l t k d=0:=by
 unfold shE
 rw[if_neg (by have:=h.l1;have:=h.l30;omega),if_neg (by have:=h.kl;omega),if_neg ?_,if_neg (by rw[h.cyc];decide)]
 rw[exN_no (fun j hj=>?_)]
 · decide
 · have a1:=h.tl j hj
   have a2:=h.tm j hj
   have a3:=h.tj j hj
   have a4:=h.d1 j hj
   have a5:=h.d40 j hj
   simp only[badS,outB,Bool.or_eq_false_iff,decide_eq_false_iff_not]
   omega
noncomputable def tbS (s:Nat) (l:Nat) (t:Nat→Int) (k:Nat) (d:Nat→Int):AV:=tbA s l t k d (ldF t l)
section
variable (n l k:Nat) (t d:Nat→Int) (H:Heap)
theorem c51e (h:shE l t k d≠0):cd (n+8) (.fn 51) [shA l t k d] H=some (.tup [.nilp,.int .i64 (shE l t k d)],H):=by
 refine fn_all (n:=n+7) Try.func51 rfl rfl rfl (u51s (n+7) l k t d (shE l t k d) H) (il_ok0 _ (n+7) (tX_ok (noCt_ok _) (fun H=>c21 n l k t d H))) (noBT_ok _ _) (noRT_ok _ _) ?_
 generalize shE l t k d=e at *
 repeat' first | (refine Tr.all_ite (fun hc=>?_) (fun hc=>?_)<;>(try simp (disch:=omega) only[nV,nW] at hc)<;>try omega) | (refine Tr.all_req ?_ ?_;· (try simp (disch:=omega) only[nV,nW]);try omega) | (refine Tr.all_reqP ?_ ?_;· first | exact trivial | rfl | exact ⟨rfl,rfl⟩ | exact ⟨rfl,rfl,rfl⟩ | (simp (disch:=omega) only[nV,nW];done) | ((try simp (disch:=omega) only[nV,nW]);omega)) | fail
 all_goals first
  | exact Tr.all_ok ⟨rfl,rfl⟩
  | fail
theorem c51 (h:Sh l t k d):cd (n+8) (.fn 51) [shA l t k d] H=some (.tup [tbS 0 l t k d,.int .i64 0],H):=by
 have h21:∀ H,cd (n+7) (.fn 21) [shA l t k d] H=some (.int .i64 0,H):=fun H=>by rw[c21,sh_to h]
 refine fn_all (n:=n+7) Try.func51 rfl rfl rfl (u51 (n+7) l k t d (ldF t l) H) (il_ok0 _ (n+7) (tX_ok (tX_ok (noCt_ok _) h21) (fun H=>c57 (n+6) l k t d H h.l30 h.tl))) (noBT_ok _ _) (noRT_ok _ _) ?_
 unfold tbS
 generalize ldF t l=g at *
 repeat' first | (refine Tr.all_ite (fun hc=>?_) (fun hc=>?_)<;>(try simp (disch:=omega) only[nV,nW] at hc)<;>try omega) | (refine Tr.all_req ?_ ?_;· (try simp (disch:=omega) only[nV,nW]);try omega) | (refine Tr.all_reqP ?_ ?_;· first | exact trivial | rfl | exact ⟨rfl,rfl⟩ | exact ⟨rfl,rfl,rfl⟩ | (simp (disch:=omega) only[nV,nW];done) | ((try simp (disch:=omega) only[nV,nW]);omega)) | fail
 all_goals first
  | exact Tr.all_ok ⟨rfl,rfl⟩
  | fail
noncomputable def lvA:AV:=if shE l t k d=0 then .tup [dA (lsN l t l),.int .i64 0] else .tup [.nils,.int .i64 (shE l t k d)]
theorem c17:cd (n+9) (.fn 17) [shA l t k d] H=some (lvA l k t d,H):=by
 unfold lvA
 by_cases h:shE l t k d=0
 · rw[if_pos h]
   have hs:=sh_of h
   have hl1:=hs.l1
   have hx:=l17 (n+6) l k t d (ldF t l) H hs.l30 hl1 hs.tl hs.cyc
   obtain ⟨q,rfl⟩:∃ q,l=q+1:=⟨l-1,by omega⟩
   refine fn_all (n:=n+8) Try.func17 rfl rfl rfl (u17 (n+8) (q+1) k q t d (ldF t (q+1)) (lstO (lsN (q+1) t (q+1))) H) (il_ok0 _ (n+8) (tX_ok (noCt_ok _) (fun H=>c51 n (q+1) k t d H hs))) (blkE_ok (noBT_ok _ _) b17 (fun x hy=>blk_ok hy hx)) (noRT_ok _ _) ?_
   rw[dA_sl _ q (lsN_len _ _ _),shO_zero]
   generalize ldF t (q+1)=g at *
   generalize lstO (lsN (q+1) t (q+1))=y at *
   repeat' first | (refine Tr.all_ite (fun hc=>?_) (fun hc=>?_)<;>(try simp (disch:=omega) only[nV,nW] at hc)<;>try omega) | (refine Tr.all_req ?_ ?_;· (try simp (disch:=omega) only[nV,nW]);try omega) | (refine Tr.all_reqP ?_ ?_;· first | exact trivial | rfl | exact ⟨rfl,rfl⟩ | exact ⟨rfl,rfl,rfl⟩ | (simp (disch:=omega) only[nV,nW];done) | ((try simp (disch:=omega) only[nV,nW]);omega)) | fail
   all_goals first
    | exact Tr.all_ok ⟨rfl,rfl⟩
    | fail
 · rw[if_neg h]
   refine fn_all (n:=n+8) Try.func17 rfl rfl rfl (u17s (n+8) l k t d (shE l t k d) H) (il_ok0 _ (n+8) (tX_ok (noCt_ok _) (fun H=>c51e n l k t d H h))) (noBT_ok _ _) (noRT_ok _ _) ?_
   generalize shE l t k d=e at *
   repeat' first | (refine Tr.all_ite (fun hc=>?_) (fun hc=>?_)<;>(try simp (disch:=omega) only[nV,nW] at hc)<;>try omega) | (refine Tr.all_req ?_ ?_;· (try simp (disch:=omega) only[nV,nW]);try omega) | (refine Tr.all_reqP ?_ ?_;· first | exact trivial | rfl | exact ⟨rfl,rfl⟩ | exact ⟨rfl,rfl,rfl⟩ | (simp (disch:=omega) only[nV,nW];done) | ((try simp (disch:=omega) only[nV,nW]);omega)) | fail
   all_goals first
    | exact Tr.all_ok ⟨rfl,rfl⟩
    | fail
end
end Go.Eng
end
