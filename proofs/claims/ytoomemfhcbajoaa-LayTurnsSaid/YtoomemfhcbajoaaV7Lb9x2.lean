/- Lay: last turns. -/
import Derived.Test.YtoomemfhcbajoaaV7Lb7x2
section
namespace Go.Eng
open Go.Proofs
set_option linter.unusedVariables false
set_option linter.unusedSimpArgs false
set_option maxRecDepth 100000
noncomputable def fr53 (s l:Nat) (t:Nat→Int) (k:Nat) (d g:Nat→Int) (j:Int):Frm:=[(0,tbA (s+1) l t k d g),(3,.ptr 0 0 0 0),(4,.ptr 0 1 0 0),(5,.ptr 0 2 0 0),(15,.int .i64 (Int.ofNat l)),(16,.int .i64 j)]
noncomputable def fr53r (s l:Nat) (t:Nat→Int) (k:Nat) (d g:Nat→Int) (j:Int):Frm:=[(0,tbA (s+1) l t k d g),(3,.ptr 0 0 0 0),(4,.ptr 0 1 0 0),(5,.ptr 0 2 0 0),(6,.int .i64 j),(7,.ptr 0 3 0 0),(8,.ptr 0 4 0 0),(15,.int .i64 (Int.ofNat l)),(16,.int .i64 j),(25,fn81 (s+1) l t k d g j)]
noncomputable def fr53u (s l:Nat) (t:Nat→Int) (k:Nat) (d g:Nat→Int) (j x:Int):Frm:=[(0,tbA (s+3) l t k d g),(3,.ptr 2 0 0 0),(4,.ptr 2 1 0 0),(5,.ptr 2 2 0 0),(6,.int .i64 j),(7,.ptr 2 3 0 0),(8,.ptr 2 4 0 0),(15,.int .i64 (Int.ofNat l)),(16,.int .i64 j),(25,.fn (.func 81) [] [.ptrT none (.I .i64 [j]) 0,.ptrT (some 2) (.G [tbA (s+1) l t k d g]) 0]),(26,.int .i64 x)]
noncomputable def fr53b (x:Int):Frm:=[(3,.ptr 2 0 0 0),(7,.ptr 2 3 0 0),(8,.ptr 2 4 0 0),(9,.int .i64 x)]
noncomputable def lv53 (m:Nat) (y:Nat→Int) (u:Bool) (a b:Nat→Int):Lvl:=⟨false,[(0,.row (.G [sl1 m y u])),(0,.row (.M [.arr .i64 a 30])),(0,.row (.M [.arr .i64 b 30]))]⟩
noncomputable def lv53r (m:Nat) (y:Nat→Int) (u:Bool) (a b:Nat→Int) (v w:Int) (L:List (Nat×Blk)):Lvl:=⟨false,[(0,.row (.G [sl1 m y u])),(0,.row (.M [.arr .i64 a 30])),(0,.row (.M [.arr .i64 b 30])),cel v,cel w]++L⟩
theorem t53a (n s l k m:Nat) (t d g y:Nat→Int) (u:Bool) (a b:Nat→Int) (L:ALoop) (H:Heap) (j x v w:Int):execT (cxR n 53 42 2 5) (il noCt n 0) noBT noRT (part Try.f53 [1,1,0,1,0,0,1,1,0,0,1,1,0,1,0,0]) (hints (fr53u s l t k d g j x)) (lvE::lvE::lv53r m y u a b v w [(0,.loop L)]::H) =
 Tr.ok (Ex.normal,[(3,AV.ptr 2 0 0 0,none),(7,AV.ptr 2 3 0 0,none),(8,AV.ptr 2 4 0 0,none),(9,AV.int .i64 x,none)],lvE::lvE::{ lock:=false,bs:=[(0,Blk.row (Row.G [AV.slcT none (Row.M [Seg.arr .i64 y m]) 1 m u])),(0,Blk.row (Row.M [Seg.arr .i64 a 30])),(0,Blk.row (Row.M [Seg.arr .i64 b 30])),(0,Blk.row (Row.I .i64 [v])),(0,Blk.row (Row.I .i64 [w])),(0,Blk.loop L)] } :: H):=by kernel_rfl
theorem t53b (n m:Nat) (y:Nat→Int) (u:Bool) (a b:Nat→Int) (L:ALoop) (H:Heap) (x v w:Int):execT (cxR n 53 42 2 5) (il noCt n 0) noBT noRT (part Try.f53 [1,1,0,1,0,0,1,1,0,0,1,1,0,1,0,1]) (hints (fr53b x)) (lvE::lvE::lv53r m y u a b v w [(0,.loop L)]::H) =
 Tr.req (inI x m) (Tr.req (ltN (idO 0 x 1) m) (Tr.req (andB (leN 0 0) (leN 0 1)) (Tr.ok (Ex.normal,[],lvE::lvE::{ lock:=false,bs:=[(0,Blk.row (Row.G [AV.slcT none (Row.M [Seg.arr .i64 y m]) 1 m u])),(0,Blk.row (Row.M [Seg.arr .i64 a 30])),(0,Blk.row (Row.M [Seg.arr .i64 b 30])),(0,Blk.row (Row.I .i64 [minO v (subI .i64 (y (idO 0 x 1)) w)])),(0,Blk.row (Row.I .i64 [addI .i64 w (Int.ofNat 1)])),(0,Blk.loop L)] } :: H)))):=by kernel_rfl
theorem t53 (n s l k m:Nat) (t d g y:Nat→Int) (u:Bool) (a b:Nat→Int) (H:Heap) (j v w:Int):execT (cxD (n+1) 53 42) (il noCt n 1) noBT (rgE noRT (fun _=>true) (fr53r s l t k d g j) (lv53r m y u a b (y (idO 0 j 1)) (Int.ofNat 0) []::H) (.ok (.normal,hints (fr53r s l t k d g j),lv53r m y u a b v w [(0,.dead)]::H))) (part Try.f53 [1,1,0,1,0,0]) (hints (fr53 s l t k d g j)) (lv53 m y u a b::H) =
 (fun (Z0:Row)=>((fun (Z1:Frm)=>((fun (Z2:Lvl)=>Tr.ite (ltI j (Int.ofNat l)) (Tr.req (inI j m) (Tr.req (ltN (idO 0 j 1) m) (Tr.reqP (Z1=Z1∧Z2::H=Z2::H) (Tr.req (inI j 30) (Tr.req (eqN 0 0) (Tr.req (ltN (idO 0 j 1) 30) (Tr.ok (Ex.normal,[(0,AV.ptrT (some (Nat.succ s)) Z0 0,none),(3,AV.ptr 0 0 0 0,none),(4,AV.ptr 0 1 0 0,none),(5,AV.ptr 0 2 0 0,none),(15,AV.int .i64 (Int.ofNat l),none),(16,AV.int .i64 (addI .i64 j (Int.ofNat 1)),none)],{ lock:=false,bs:=[(0,Blk.row (Row.G [AV.slcT none (Row.M [Seg.arr .i64 y m]) 1 m u])),(0,Blk.row (Row.M [Seg.arr .i64 a 30])),(0,Blk.row (Row.M [Seg.arr .i64 (updO b (idO 0 j 1) v) 30])),(0,Blk.row (Row.I .i64 [v])),(0,Blk.row (Row.I .i64 [w])),(0,Blk.dead)] } :: H)))))))) (Tr.ok (Ex.exit 0,[(0,AV.ptrT (some (Nat.succ s)) Z0 0,none),(3,AV.ptr 0 0 0 0,none),(4,AV.ptr 0 1 0 0,none),(5,AV.ptr 0 2 0 0,none),(15,AV.int .i64 (Int.ofNat l),none),(16,AV.int .i64 j,none),(17,AV.bool false,some 1)],{ lock:=false,bs:=[(0,Blk.row (Row.G [AV.slcT none (Row.M [Seg.arr .i64 y m]) 1 m u])),(0,Blk.row (Row.M [Seg.arr .i64 a 30])),(0,Blk.row (Row.M [Seg.arr .i64 b 30]))] } :: H))) { lock:=false,bs:=[(0,Blk.row (Row.G [AV.slcT none (Row.M [Seg.arr .i64 y m]) 1 m u])),(0,Blk.row (Row.M [Seg.arr .i64 a 30])),(0,Blk.row (Row.M [Seg.arr .i64 b 30])),(0,Blk.row (Row.I .i64 [y (idO 0 j 1)])),(0,Blk.row (Row.I .i64 [Int.ofNat 0]))] })) [(0,AV.ptrT (some (Nat.succ s)) Z0 0),(3,AV.ptr 0 0 0 0),(4,AV.ptr 0 1 0 0),(5,AV.ptr 0 2 0 0),(6,AV.int .i64 j),(7,AV.ptr 0 3 0 0),(8,AV.ptr 0 4 0 0),(15,AV.int .i64 (Int.ofNat l)),(16,AV.int .i64 j),(25,AV.fn (Fn.func 81) [] [AV.ptrT none (Row.I .i64 [j]) 0,AV.ptrT (some 0) (Row.G [AV.ptrT (some (Nat.succ s)) Z0 0]) 0])])) (Row.M [Seg.one (AV.slcT none (Row.M [Seg.arr .i64 t l]) 1 l false),Seg.one (AV.slcT none (Row.M [Seg.arr .i64 d k]) 1 k false),Seg.arr .i64 g 30]):=by kernel_rfl
theorem t53x (n s l k m:Nat) (t d g y:Nat→Int) (u:Bool) (a b:Nat→Int) (H:Heap) (j:Int):execT (cxD (n+1) 53 42) (il noCt n 1) noBT (rgE noRT (fun _=>true) [] [] .bad) (part Try.f53 [1,1,0,1,0,0]) (hints (fr53 s l t k d g j)) (lv53 m y u a b::H) =
 (fun (Z0:Row)=>Tr.ite (ltI j (Int.ofNat l)) (Tr.req (inI j m) (Tr.req (ltN (idO 0 j 1) m) (Tr.reqP ([(0,AV.ptrT (some (Nat.succ s)) Z0 0),(3,AV.ptr 0 0 0 0),(4,AV.ptr 0 1 0 0),(5,AV.ptr 0 2 0 0),(6,AV.int .i64 j),(7,AV.ptr 0 3 0 0),(8,AV.ptr 0 4 0 0),(15,AV.int .i64 (Int.ofNat l)),(16,AV.int .i64 j),(25,AV.fn (Fn.func 81) [] [AV.ptrT none (Row.I .i64 [j]) 0,AV.ptrT (some 0) (Row.G [AV.ptrT (some (Nat.succ s)) Z0 0]) 0])]=[]∧{ lock:=false,bs:=[(0,Blk.row (Row.G [AV.slcT none (Row.M [Seg.arr .i64 y m]) 1 m u])),(0,Blk.row (Row.M [Seg.arr .i64 a 30])),(0,Blk.row (Row.M [Seg.arr .i64 b 30])),(0,Blk.row (Row.I .i64 [y (idO 0 j 1)])),(0,Blk.row (Row.I .i64 [Int.ofNat 0]))] } :: H=[]) Tr.bad))) (Tr.ok (Ex.exit 0,[(0,AV.ptrT (some (Nat.succ s)) Z0 0,none),(3,AV.ptr 0 0 0 0,none),(4,AV.ptr 0 1 0 0,none),(5,AV.ptr 0 2 0 0,none),(15,AV.int .i64 (Int.ofNat l),none),(16,AV.int .i64 j,none),(17,AV.bool false,some 1)],{ lock:=false,bs:=[(0,Blk.row (Row.G [AV.slcT none (Row.M [Seg.arr .i64 y m]) 1 m u])),(0,Blk.row (Row.M [Seg.arr .i64 a 30])),(0,Blk.row (Row.M [Seg.arr .i64 b 30]))] } :: H))) (Row.M [Seg.one (AV.slcT none (Row.M [Seg.arr .i64 t l]) 1 l false),Seg.one (AV.slcT none (Row.M [Seg.arr .i64 d k]) 1 k false),Seg.arr .i64 g 30]):=by kernel_rfl
theorem u53 (n s l k m:Nat) (t d g y:Nat→Int) (u:Bool) (b:Nat→Int) (H:Heap):bodyT Try.prog (cd n) 100000 53 Try.f53 (KtL.kt 53) (il noCt n 0) (blkE noBT 0 (fr53 s l t k d g 0) (lv53 m y u (fun x=>Int.ofNat 0) (fun x=>Int.ofNat 0)::H) (.ok (.normal,hints (fr53 s l t k d g (Int.ofNat l)++[(17,.bool false)]),lv53 m y u (fun x=>Int.ofNat 0) b::H))) noRT [(tbA s l t k d g,none),(sl1 m y u,none)] H =
 (fun (Z0:Frm)=>((fun (Z1:Lvl)=>Tr.reqP (Z0=Z0∧Z1::H=Z1::H) (Tr.req (inO 0 30 0 30) (Tr.ok ((AV.agg (Row.M [Seg.arr .i64 (copO (fun x=>Int.ofNat 0) 0 b 30) 30]),none),H)))) { lock:=false,bs:=[(0,Blk.row (Row.G [AV.slcT none (Row.M [Seg.arr .i64 y m]) 1 m u])),(0,Blk.row (Row.M [Seg.arr .i64 (fun x=>Int.ofNat 0) 30])),(0,Blk.row (Row.M [Seg.arr .i64 (fun x=>Int.ofNat 0) 30]))] })) [(0,AV.ptrT (some (Nat.succ s)) (Row.M [Seg.one (AV.slcT none (Row.M [Seg.arr .i64 t l]) 1 l false),Seg.one (AV.slcT none (Row.M [Seg.arr .i64 d k]) 1 k false),Seg.arr .i64 g 30]) 0),(3,AV.ptr 0 0 0 0),(4,AV.ptr 0 1 0 0),(5,AV.ptr 0 2 0 0),(15,AV.int .i64 (Int.ofNat l)),(16,AV.int .i64 (Int.ofNat 0))]:=by kernel_rfl
theorem b53:∀ b,(0,b) ∈ blocksOf (bodyOf Try.f53)→b=.loop (part Try.f53 [1,1,0,1,0,0]):=by
 have:((blocksOf (bodyOf Try.f53)).filter fun x=>Nat.beq x.1 0)=[(0,.loop (part Try.f53 [1,1,0,1,0,0]))]:=by kernel_rfl
 intro b hb
 have hm:(0,b) ∈ ((blocksOf (bodyOf Try.f53)).filter fun x=>Nat.beq x.1 0):=List.mem_filter.2 ⟨hb,rfl⟩
 rw[this] at hm;simpa using hm
theorem round_as {n d i:Nat} {args:List AV} {H H2 R:Heap} {l l2:ALoop} {fr fr1 fr2:Frm} {lv:Lvl}
 (hg:hGet H d i=(0,.loop l)) (hl:hLock H d=false) (hs:l.state=.ready) (hp:putPs l.nt (upFrm (d+1) l.fr) l.params (args.map (upV 1))=some fr)
 (h1:exec (cxR n l.fn l.nt (d+1) i) l.assign fr (lvE::H)=some (.normal,fr1,lvE::H))
 (h2:exec (cxR n l.fn l.nt (d+1) i) l.body fr1 (hSet (lvE::H) (d+1) i (0,.loop { l with state:=.busy }))=some (.normal,fr2,lv::H2)) (hg2:hGet H2 d i=(0,.loop l2)) (hR:R=hSet H2 d i (0,.loop { l2 with state:=.ready,pending:=none })) :
 cd (n+1) (.round d i) args H=some (.bool true,R):=by
 rw[hR]
 exact round_of (P:=Try.prog) (ora:=oraD) (KT:=KtL.kt) (fu:=100000) (e:=.normal) hg hl hs hp h1 (by rw[show hGet (lvE::H) (d+1) i=hGet H d i from rfl];exact hg) hs h2 hg2
theorem ex_eqR {n f nt d i:Nat} {c:Code} {callR:CallTr} {bl:BlkT} {rg:RgT} {fr:Frm} {H:Heap} {T:Tr Res} (e:execT (cxR n f nt d i) callR bl rg c (hints fr) H=T) (hC:callR.Ok (cd n)) (hB:bl.Ok (cxR n f nt d i) c) (hR:rg.Ok (cxR n f nt d i) c) {y:Ex×Frm×Heap} (h:T.all fun x=>x.st=y):exec (cxR n f nt d i) c fr H=some y:=by
 obtain ⟨x,h1,rfl⟩:=h
 have:=execT_ok (cx:=cxR n f nt d i) hC c hB hR (hints fr) H x (by rw[e];exact h1)
 rw[hints_eq] at this;exact this
noncomputable def lAs3:Code:=part Try.f53 [1,1,0,1,0,0,1,1,0,0,1,1,0,1,0,0]
noncomputable def lBd3:Code:=part Try.f53 [1,1,0,1,0,0,1,1,0,0,1,1,0,1,0,1]
theorem r53:rangesOf (part Try.f53 [1,1,0,1,0,0])=[(.tmp 25,#[26],lAs3,lBd3)]:=by kernel_rfl
noncomputable def rec53 (s l:Nat) (t:Nat→Int) (k:Nat) (d g:Nat→Int) (j:Int):ALoop:={ state:=.ready,pending:=none,fn:=53,nt:=42,fr:=fr53r s l t k d g j,params:=[26],assign:=lAs3,body:=lBd3 }
def lsV (t e:Nat→Int) (i:Nat):Nat→Int
 | 0=>e i
 | m+1=>min (lsV t e i m) (e (stp t m (i:Int)).toNat-(m:Int))
def laV (l:Nat) (t e:Nat→Int) (i:Nat):Int:=lsV t e i (lvN l t i)
section
variable (n s l k m:Nat) (t d g y:Nat→Int) (u:Bool) (a b:Nat→Int) (H:Heap) (i:Nat)
theorem rd53 (j x v w:Int) (hx:0≤x) (hm:x<m) (hv:-1000≤v∧v≤1000) (hw:0≤w∧w≤1000) (hy:-1000≤y x.toNat∧y x.toNat≤1000) :
 cd (n+1) (.round 1 5) [.int .i64 x] (lvE::lv53r m y u a b v w [(0,.loop (rec53 s l t k d g j))]::H)=some (.bool true,lvE::lv53r m y u a b (min v (y x.toNat-w)) (w+1) [(0,.loop (rec53 s l t k d g j))]::H):=by
 have h1:exec (cxR n 53 42 2 5) lAs3 (fr53u s l t k d g j x) (lvE::lvE::lv53r m y u a b v w [(0,.loop (rec53 s l t k d g j))]::H)=some (.normal,fr53b x,lvE::lvE::lv53r m y u a b v w [(0,.loop (rec53 s l t k d g j))]::H) :=
  ex_eqR (t53a n s l k m t d g y u a b _ H j x v w) (il_no0 n) (noBT_ok _ _) (noRT_ok _ _) (Tr.all_ok rfl)
 have h2:exec (cxR n 53 42 2 5) lBd3 (fr53b x) (lvE::lvE::lv53r m y u a b v w [(0,.loop { rec53 s l t k d g j with state:=.busy })]::H)=some (.normal,[],lvE::lvE::lv53r m y u a b (min v (y x.toNat-w)) (w+1) [(0,.loop { rec53 s l t k d g j with state:=.busy })]::H):=by
  refine ex_eqR (t53b n m y u a b _ H x v w) (il_no0 n) (noBT_ok _ _) (noRT_ok _ _) ?_
  have e1:subI .i64 (y x.toNat) w=y x.toNat-w:=sb64 (by omega) (by omega)
  have e2:addI .i64 w (Int.ofNat 1)=w+1:=ad64 (by show _≤w+1;omega) (by show w+1≤_;omega)
  rw[idI hx,e1,e2,minO_min]
  generalize rec53 s l t k d g j=L at *
  generalize y x.toNat=q at *
  generalize min v (q-w)=V at *
  repeat' first | (refine Tr.all_ite (fun hc=>?_) (fun hc=>?_)<;>(try simp (disch:=omega) only[nV,nW] at hc)<;>try omega) | (refine Tr.all_req ?_ ?_;· (try simp (disch:=omega) only[nV,nW]);try omega) | (refine Tr.all_reqP ?_ ?_;· first | exact trivial | rfl | exact ⟨rfl,rfl⟩ | exact ⟨rfl,rfl,rfl⟩ | (simp (disch:=omega) only[nV,nW];done) | ((try simp (disch:=omega) only[nV,nW]);omega)) | fail
  all_goals first
   | exact Tr.all_ok rfl
   | fail
 exact round_as (l:=rec53 s l t k d g j) (l2:={ rec53 s l t k d g j with state:=.busy }) rfl rfl rfl rfl h1 h2 rfl rfl
theorem lsV_bd {t e:Nat→Int} {i:Nat} {l:Nat} (hy:∀ j,j<l→-900≤e j∧e j≤900) (hi:i<l) (ht:∀ j,j<l→t j<l):∀ m,m≤31→(∀ q,q<m→0≤stp t q (i:Int))→-1000≤lsV t e i m∧lsV t e i m≤1000
 | 0,_,_=>by have:=hy i hi;show -1000≤e i∧e i≤1000;omega
 | m+1,hm,hp=>by
   have ih:=lsV_bd hy hi ht m (by omega) (fun q hq=>hp q (by omega))
   have h1:=hp m (by omega)
   have h2:=stp_lt ht (show (i:Int)<l by omega) m
   have h3:=hy (stp t m (i:Int)).toNat (by omega)
   show -1000≤min (lsV t e i m) _∧min (lsV t e i m) _≤1000
   omega
theorem x53 (hl:l≤30) (hm:m=l) (ht:∀ j,j<l→t j<l) (hi:i<l) (hc:cycB l t=false) (hy:∀ j,j<l→-900≤y j∧y j≤900) :
 exec (cxD (n+2) 53 42) (.rangeFunc (.tmp 25) #[26] lAs3 lBd3) (fr53r s l t k d g (i:Nat)) (lv53r m y u a b (y i) 0 []::H)=some (.normal,fr53r s l t k d g (i:Nat),lv53r m y u a b (laV l t y i) (lvN l t i:Nat) [(0,.dead)]::H):=by
 subst hm
 obtain ⟨e1,e2,e3⟩:=cyc_lv hc i hi
 exact range_of (cx:=cxD (n+2) 53 42) (l:=rec53 s m t k d g (i:Nat)) (f:=.tmp 25) (ps:=#[26]) (fr:=fr53r s m t k d g (i:Nat)) (H:=lv53r m y u a b (y i) 0 []::H) (g:=81) (a:=[]) (b:=[.ptrT none (.I .i64 [(i:Int)]) 0,.ptrT (some 0) (.G [tbA (s+1) m t k d g]) 0]) rfl rfl rfl
  (c81_5 (n+1) m k t d g i (lvN m t i) (fun c=>lv53r m y u a b (lsV t y i c) (c:Nat) [(0,.loop (rec53 s m t k d g (i:Nat)))]::H) (s+1) (by omega) e2 e3 ht (by omega) hi (fun c hc=>by
    have h1:=e2 c hc
    have h2:=stp_lt ht (show (i:Int)<m by omega) c
    have h3:=hy (stp t c (i:Int)).toNat (by omega)
    exact rd53 n s m k m t d g y u a b H _ _ _ _ h1 h2 (lsV_bd hy hi ht c (by omega) (fun q hq=>e2 q (by omega))) (by omega) (by omega))) rfl rfl rfl
theorem upd_lc (z:Nat→Int) (j:Nat):updO (fun i=>if i<j then z i else 0) j (z j)=fun i=>if i<j+1 then z i else 0:=by
 rw[updO_fn];funext i
 show (if i=j then z j else if i<j then z i else 0)=_
 by_cases c:i=j
 · subst c;rw[if_pos rfl,if_pos (by omega)]
 · rw[if_neg c]
   by_cases c2:i<j
   · rw[if_pos c2,if_pos (by omega)]
   · rw[if_neg c2,if_neg (by omega)]
def lcJ (l:Nat) (t e:Nat→Int) (j:Nat):Nat→Int:=fun i=>if i<j then laV l t e i else 0
theorem l53 (hl:l≤30) (hm:m=l) (ht:∀ j,j<l→t j<l) (hc:cycB l t=false) (hy:∀ j,j<l→-900≤y j∧y j≤900) :
 exec (cxD (n+2) 53 42) (.block 0 (.loop (part Try.f53 [1,1,0,1,0,0]))) (fr53 s l t k d g 0) (lv53 m y u a (fun x=>Int.ofNat 0)::H)=some (.normal,fr53 s l t k d g (Int.ofNat l)++[(17,.bool false)],lv53 m y u a (lcJ l t y l)::H):=by
 refine forX (n:=n+2) (f:=53) (nt:=42) (c:=part Try.f53 [1,1,0,1,0,0]) 0 (fun j=>fr53 s l t k d g (j:Nat)) (fun j=>lv53 m y u a (lcJ l t y j)::H) l (fr53 s l t k d g (Int.ofNat l)++[(17,.bool false)],lv53 m y u a (lcJ l t y l)::H) (by omega) (fun j hj=>?_) ?_
 · have hx:=x53 n s l k m t d g y u a (lcJ l t y j) H j hl hm ht hj hc hy
   have he:=t53 (n+1) s l k m t d g y u a (lcJ l t y j) H (j:Nat) (laV l t y j) (lvN l t j:Nat)
   rw[id1] at he
   refine ex_all he (il_no (n+1) 1) (noBT_ok _ _) (rgE_ok (noRT_ok _ _) (fun f ps a b _ hm x hx2=>?_)) ?_
   · rw[r53] at hm
     simp only[List.mem_cons,Prod.mk.injEq,List.not_mem_nil,or_false] at hm
     obtain ⟨rfl,rfl,rfl,rfl⟩:=hm
     rw[← Tr.ok_some hx2];exact hx
   · show Tr.all _ (fun x=>_∧tidy _ _ _=(fr53 s l t k d g ((j+1:Nat):Int),lv53 m y u a (lcJ l t y (j+1))::H))
     have hu:updO (lcJ l t y j) j (laV l t y j)=lcJ l t y (j+1):=upd_lc (laV l t y) j
     have e1:subO (idO 2 (j:Int) 1) 2=j:=by rw[idO_eq,subO_eq];omega
     rw[cs64 (by omega)]
     simp only[e1,hu,id1]
     generalize laV l t y j=V at *
     generalize lcJ l t y (j+1)=Y2 at *
     generalize lcJ l t y j=Y1 at *
     repeat' first | (refine Tr.all_ite (fun hc=>?_) (fun hc=>?_)<;>(try simp (disch:=omega) only[nV,nW] at hc)<;>try omega) | (refine Tr.all_req ?_ ?_;· (try simp (disch:=omega) only[nV,nW]);try omega) | (refine Tr.all_reqP ?_ ?_;· first | exact trivial | rfl | exact ⟨rfl,rfl⟩ | exact ⟨rfl,rfl,rfl⟩ | (simp (disch:=omega) only[nV,nW];done) | ((try simp (disch:=omega) only[nV,nW]);omega)) | fail
     all_goals first
      | exact Tr.all_ok ⟨rfl,rfl⟩
      | fail
 · obtain ⟨x,h1,rfl⟩:=ex_all (Q:=fun x=>x=(.exit 0,fr53 s l t k d g (Int.ofNat l)++[(17,.bool false)],lv53 m y u a (lcJ l t y l)::H)) (t53x (n+1) s l k m t d g y u a (lcJ l t y l) H (Int.ofNat l)) (il_no (n+1) 1) (noBT_ok _ _) (rgE_ok (noRT_ok _ _) (fun f ps a b _ hm x hx2=>(Tr.bad_some hx2).elim)) (by
    refine Tr.all_ite (fun hc=>?_) (fun hc=>Tr.all_ok rfl)
    simp (disch:=omega) only[nV,nW] at hc;omega)
   exact h1
theorem c53 (hl:l≤30) (hm:m=l) (ht:∀ j,j<l→t j<l) (hc:cycB l t=false) (hy:∀ j,j<l→-900≤y j∧y j≤900) :
 cd (n+3) (.fn 53) [tbA s l t k d g,sl1 m y u] H=some (.agg (.M [.arr .i64 (cp30 (lcJ l t y l)) 30]),H):=by
 have hx:=l53 n s l k m t d g y u (fun x=>Int.ofNat 0) H hl hm ht hc hy
 refine fn_all (n:=n+2) Try.func53 rfl rfl rfl (u53 (n+2) s l k m t d g y u (lcJ l t y l) H) (il_no0 _) (blkE_ok (noBT_ok _ _) b53 (fun x hy=>blk_ok hy hx)) (noRT_ok _ _) ?_
 generalize lcJ l t y l=Y at *
 repeat' first | (refine Tr.all_ite (fun hc=>?_) (fun hc=>?_)<;>(try simp (disch:=omega) only[nV,nW] at hc)<;>try omega) | (refine Tr.all_req ?_ ?_;· (try simp (disch:=omega) only[nV,nW]);try omega) | (refine Tr.all_reqP ?_ ?_;· first | exact trivial | rfl | exact ⟨rfl,rfl⟩ | exact ⟨rfl,rfl,rfl⟩ | (simp (disch:=omega) only[nV,nW];done) | ((try simp (disch:=omega) only[nV,nW]);omega)) | fail
 all_goals first
  | exact Tr.all_ok ⟨rfl,rfl⟩
  | fail
end
end Go.Eng
end
section
namespace Go.Eng
open Go.Proofs
set_option linter.unusedVariables false
set_option linter.unusedSimpArgs false
set_option maxRecDepth 100000
noncomputable def fr69 (s l:Nat) (t:Nat→Int) (k:Nat) (d g:Nat→Int) (x f j:Int):Frm:=[(0,tbA (s+1) l t k d g),(2,.int .i64 x),(7,.ptr 0 0 0 0),(8,.int .i64 f),(15,.int .i64 j)]
noncomputable def fr69i (s l:Nat) (t:Nat→Int) (k:Nat) (d g:Nat→Int) (x f T c j:Int):Frm:=[(0,tbA (s+1) l t k d g),(2,.int .i64 x),(7,.ptr 0 0 0 0),(8,.int .i64 f),(9,.int .i64 T),(10,.int .i64 c),(15,.int .i64 T),(23,.int .i64 (Int.ofNat l)),(24,.int .i64 j)]
theorem t69i (n s l k:Nat) (t d g z:Nat→Int) (H:Heap) (x f T c j:Int):execT (cxD n 69 43) (il noCt n 0) noBT noRT (part Try.f69 [1,0,1,1,1,0,1,0,0,1,1,0,0,1,1,1,0,0]) (hints (fr69i s l t k d g x f T c j)) (lv30 z::H) =
 (fun (Z0:Nat×AV×Option Nat)=>((fun (Z1:Lvl)=>Tr.ite (ltI j (Int.ofNat l)) (Tr.req (inI j 30) (Tr.req (eqN 0 0) (Tr.req (ltN (idO 0 j 1) 30) (Tr.ite (ltI T (z (idO 0 j 1))) (Tr.ok (Ex.normal,[Z0,(2,AV.int .i64 x,none),(7,AV.ptr 0 0 0 0,none),(8,AV.int .i64 f,none),(9,AV.int .i64 T,none),(10,AV.int .i64 c,none),(15,AV.int .i64 T,none),(23,AV.int .i64 (Int.ofNat l),none),(24,AV.int .i64 (addI .i64 j (Int.ofNat 1)),none)],Z1::H)) (Tr.ite (ltI (mulI .i64 x T) (addI .i64 c (Int.ofNat 1))) (Tr.ok (Ex.exit 0,[(8,AV.int .i64 T,none)],Z1::H)) (Tr.ok (Ex.normal,[Z0,(2,AV.int .i64 x,none),(7,AV.ptr 0 0 0 0,none),(8,AV.int .i64 f,none),(9,AV.int .i64 T,none),(10,AV.int .i64 (addI .i64 c (Int.ofNat 1)),none),(15,AV.int .i64 T,none),(23,AV.int .i64 (Int.ofNat l),none),(24,AV.int .i64 (addI .i64 j (Int.ofNat 1)),none)],Z1::H))))))) (Tr.ok (Ex.exit 2,[Z0,(2,AV.int .i64 x,none),(7,AV.ptr 0 0 0 0,none),(8,AV.int .i64 f,none),(9,AV.int .i64 T,none),(10,AV.int .i64 c,none),(15,AV.int .i64 T,none),(23,AV.int .i64 (Int.ofNat l),none),(24,AV.int .i64 j,none),(25,AV.bool false,some 1)],Z1::H))) { lock:=false,bs:=[(0,Blk.row (Row.M [Seg.arr .i64 z 30]))] })) (0,AV.ptrT (some (Nat.succ s)) (Row.M [Seg.one (AV.slcT none (Row.M [Seg.arr .i64 t l]) 1 l false),Seg.one (AV.slcT none (Row.M [Seg.arr .i64 d k]) 1 k false),Seg.arr .i64 g 30]) 0,none):=by kernel_rfl
theorem t69 (n s l k:Nat) (t d g z:Nat→Int) (H:Heap) (x f j c:Int) (b:Bool):execT (cxD n 69 43) (il noCt n 0) (blkE noBT 2 (fr69i s l t k d g x f j 0 0) (lv30 z::H) (.ite b (.ok (.exit 0,hints [(8,.int .i64 j)],lv30 z::H)) (.ok (.normal,hints (fr69i s l t k d g x f j c (Int.ofNat l)++[(25,.bool false)]),lv30 z::H)))) noRT (part Try.f69 [1,0,1,1,1,0,1,0,0]) (hints (fr69 s l t k d g x f j)) (lv30 z::H) =
 (fun (Z0:Row)=>((fun (Z1:Lvl)=>((fun (Z2:Frm)=>Tr.ite (ltI j (Int.ofNat 41)) (Tr.reqP (Z2=Z2∧Z1::H=Z1::H) (Tr.ite b (Tr.ok (Ex.exit 0,[(8,AV.int .i64 j,none)],Z1::H)) (Tr.ok (Ex.normal,[(0,AV.ptrT (some (Nat.succ s)) Z0 0,none),(2,AV.int .i64 x,none),(7,AV.ptr 0 0 0 0,none),(8,AV.int .i64 f,none),(15,AV.int .i64 (addI .i64 j (Int.ofNat 1)),none)],Z1::H)))) (Tr.ok (Ex.exit 0,[(0,AV.ptrT (some (Nat.succ s)) Z0 0,none),(2,AV.int .i64 x,none),(7,AV.ptr 0 0 0 0,none),(8,AV.int .i64 f,none),(15,AV.int .i64 j,none),(16,AV.bool false,some 1)],Z1::H))) [(0,AV.ptrT (some (Nat.succ s)) Z0 0),(2,AV.int .i64 x),(7,AV.ptr 0 0 0 0),(8,AV.int .i64 f),(9,AV.int .i64 j),(10,AV.int .i64 (Int.ofNat 0)),(15,AV.int .i64 j),(23,AV.int .i64 (Int.ofNat l)),(24,AV.int .i64 (Int.ofNat 0))])) { lock:=false,bs:=[(0,Blk.row (Row.M [Seg.arr .i64 z 30]))] })) (Row.M [Seg.one (AV.slcT none (Row.M [Seg.arr .i64 t l]) 1 l false),Seg.one (AV.slcT none (Row.M [Seg.arr .i64 d k]) 1 k false),Seg.arr .i64 g 30]):=by kernel_rfl
theorem t69x (n s l k:Nat) (t d g z:Nat→Int) (H:Heap) (x f j:Int):execT (cxD n 69 43) (il noCt n 0) (stopB noBT 2) noRT (part Try.f69 [1,0,1,1,1,0,1,0,0]) (hints (fr69 s l t k d g x f j)) (lv30 z::H) =
 Tr.ite (ltI j (Int.ofNat 41)) Tr.bad (Tr.ok (Ex.exit 0,[(0,AV.ptrT (some (Nat.succ s)) (Row.M [Seg.one (AV.slcT none (Row.M [Seg.arr .i64 t l]) 1 l false),Seg.one (AV.slcT none (Row.M [Seg.arr .i64 d k]) 1 k false),Seg.arr .i64 g 30]) 0,none),(2,AV.int .i64 x,none),(7,AV.ptr 0 0 0 0,none),(8,AV.int .i64 f,none),(15,AV.int .i64 j,none),(16,AV.bool false,some 1)],{ lock:=false,bs:=[(0,Blk.row (Row.M [Seg.arr .i64 z 30]))] } :: H)):=by kernel_rfl
theorem u69 (n s l k m:Nat) (t d g y z:Nat→Int) (u:Bool) (H:Heap) (x r:Int) (R:HFrm):bodyT Try.prog (cd n) 100000 69 Try.f69 (KtL.kt 69) (il (tX noCt 53 [tbA (s+1) l t k d g,sl1 m y u] (.agg (.M [.arr .i64 z 30]))) n 0) (blkE noBT 0 (fr69 s l t k d g x (-1) 0) (lv30 (cp30 z)::H) (.ok (.normal,(8,.int .i64 r,none)::[],lv30 (cp30 z)::H))) noRT [(tbA s l t k d g,none),(sl1 m y u,none),(.int .i64 x,none)] H =
 (fun (Z0:Row)=>((fun (Z1:Frm)=>((fun (Z2:Lvl)=>Tr.reqP ([AV.ptrT (some (Nat.succ s)) Z0 0,AV.slcT none (Row.M [Seg.arr .i64 y m]) 1 m u]=[AV.ptrT (some (Nat.succ s)) Z0 0,AV.slcT none (Row.M [Seg.arr .i64 y m]) 1 m u]) (Tr.req (inO 0 30 0 30) (Tr.reqP (Z1=Z1∧Z2::H=Z2::H) (Tr.ok ((AV.int .i64 r,none),H))))) { lock:=false,bs:=[(0,Blk.row (Row.M [Seg.arr .i64 (copO (fun x=>Int.ofNat 0) 0 z 30) 30]))] })) [(0,AV.ptrT (some (Nat.succ s)) Z0 0),(2,AV.int .i64 x),(7,AV.ptr 0 0 0 0),(8,AV.int .i64 (Int.negSucc 0)),(15,AV.int .i64 (Int.ofNat 0))])) (Row.M [Seg.one (AV.slcT none (Row.M [Seg.arr .i64 t l]) 1 l false),Seg.one (AV.slcT none (Row.M [Seg.arr .i64 d k]) 1 k false),Seg.arr .i64 g 30]):=by kernel_rfl
theorem u69b (n s l k m:Nat) (t d g y z:Nat→Int) (u:Bool) (H:Heap) (x:Int):bodyT Try.prog (cd n) 100000 69 Try.f69 (KtL.kt 69) (il (tX noCt 53 [tbA (s+1) l t k d g,sl1 m y u] (.agg (.M [.arr .i64 z 30]))) n 0) (blkE noBT 0 (fr69 s l t k d g x (-1) 0) (lv30 (cp30 z)::H) (.ok (.normal,hints (fr69 s l t k d g x (-1) 41++[(16,.bool false)]),lv30 (cp30 z)::H))) noRT [(tbA s l t k d g,none),(sl1 m y u,none),(.int .i64 x,none)] H =
 (fun (Z0:Row)=>((fun (Z1:Frm)=>((fun (Z2:Lvl)=>Tr.reqP ([AV.ptrT (some (Nat.succ s)) Z0 0,AV.slcT none (Row.M [Seg.arr .i64 y m]) 1 m u]=[AV.ptrT (some (Nat.succ s)) Z0 0,AV.slcT none (Row.M [Seg.arr .i64 y m]) 1 m u]) (Tr.req (inO 0 30 0 30) (Tr.reqP (Z1=Z1∧Z2::H=Z2::H) (Tr.ok ((AV.int .i64 (Int.negSucc 0),none),H))))) { lock:=false,bs:=[(0,Blk.row (Row.M [Seg.arr .i64 (copO (fun x=>Int.ofNat 0) 0 z 30) 30]))] })) [(0,AV.ptrT (some (Nat.succ s)) Z0 0),(2,AV.int .i64 x),(7,AV.ptr 0 0 0 0),(8,AV.int .i64 (Int.negSucc 0)),(15,AV.int .i64 (Int.ofNat 0))])) (Row.M [Seg.one (AV.slcT none (Row.M [Seg.arr .i64 t l]) 1 l false),Seg.one (AV.slcT none (Row.M [Seg.arr .i64 d k]) 1 k false),Seg.arr .i64 g 30]):=by kernel_rfl
theorem b69:∀ b,(0,b) ∈ blocksOf (bodyOf Try.f69)→b=.loop (part Try.f69 [1,0,1,1,1,0,1,0,0]):=by
 have:((blocksOf (bodyOf Try.f69)).filter fun x=>Nat.beq x.1 0)=[(0,.loop (part Try.f69 [1,0,1,1,1,0,1,0,0]))]:=by kernel_rfl
 intro b hb
 have hm:(0,b) ∈ ((blocksOf (bodyOf Try.f69)).filter fun x=>Nat.beq x.1 0):=List.mem_filter.2 ⟨hb,rfl⟩
 rw[this] at hm;simpa using hm
theorem b69i:∀ b,(2,b) ∈ blocksOf (part Try.f69 [1,0,1,1,1,0,1,0,0])→b=.loop (part Try.f69 [1,0,1,1,1,0,1,0,0,1,1,0,0,1,1,1,0,0]):=by
 have:((blocksOf (part Try.f69 [1,0,1,1,1,0,1,0,0])).filter fun x=>Nat.beq x.1 2)=[(2,.loop (part Try.f69 [1,0,1,1,1,0,1,0,0,1,1,0,0,1,1,1,0,0]))]:=by kernel_rfl
 intro b hb
 have hm:(2,b) ∈ ((blocksOf (part Try.f69 [1,0,1,1,1,0,1,0,0])).filter fun x=>Nat.beq x.1 2):=List.mem_filter.2 ⟨hb,rfl⟩
 rw[this] at hm;simpa using hm
def crN (l:Nat) (t e:Nat→Int) (T:Int):Nat:=cn (fun i=>decide (laV l t e i≤T)) l
def crB (l:Nat) (t e:Nat→Int) (h T:Int):Bool:=decide (h*T<crN l t e T)
def crT (l:Nat) (t e:Nat→Int) (h:Int):Int:=ixF (fun T=>crB l t e h (T:Nat)) 41
theorem forE {n f nt:Nat} {c:Code} (id:Nat) (e:Ex) (F:Nat→Frm) (G:Nat→Heap) (N:Nat) (p:Nat→Bool) (X:Nat→Frm×Heap) (Y:Frm×Heap) (hN:N<99999) (hne:e≠.normal) (hid:∀ id',e=.exit id'→Nat.beq id' id=false) (hc:(match e with | .normal=>false | _=>true)=true)
 (hs:∀ j,j<N→∃ x,exec (cxD n f nt) c (F j) (G j)=some x∧if p j=true then x=(e,X j) else x.1=.normal∧tidy (hNext (G 0)) x.2.1 x.2.2=(F (j+1),G (j+1)))
 (he:exec (cxD n f nt) c (F N) (G N)=some (.exit id,Y)):exec (cxD n f nt) (.block id (.loop c)) (F 0) (G 0)=some (cond (exN p N) (e,X (fN p N 0)) (.normal,Y)):=by
 have key:=iter_find (body:=exec (cxD n f nt) c) (n:=hNext (G 0)) F G N p (fun j=>if j<N then (e,X j) else (.exit id,Y))
  (fun j hj hp=>by
    obtain ⟨x,h1,h2⟩:=hs j hj
    rw[if_neg (by rw[hp];simp)] at h2
    obtain ⟨e,f1,g1⟩:=x
    obtain ⟨rfl,h3⟩:=h2
    exact ⟨_,_,h1,h3⟩)
  (fun j hj hp=>by
    obtain ⟨x,h1,h2⟩:=hs j hj
    rw[if_pos hp] at h2
    subst h2
    rw[if_pos hj]
    exact ⟨h1,hne⟩)
  (by
    rw[if_neg (by omega)]
    exact ⟨he,by simp⟩) N 0 100000 (by omega) (by omega)
 cases hc:exN p N with
 | true =>
   have:=exN_true hc
   rw[if_pos this] at key
   exact exec_block_loop_other hid key
 | false =>
   have:=exN_false hc
   rw[if_neg (by omega)] at key
   exact exec_block_loop key
theorem forN {n f nt:Nat} {c:Code} (id:Nat) (F:Nat→Frm) (G:Nat→Heap) (N:Nat) (p:Nat→Bool) (X:Nat→Frm×Heap) (Y:Frm×Heap) (hN:N<99999)
 (hs:∀ j,j<N→∃ x,exec (cxD n f nt) c (F j) (G j)=some x∧if p j=true then x=(.exit id,X j) else x.1=.normal∧tidy (hNext (G 0)) x.2.1 x.2.2=(F (j+1),G (j+1)))
 (he:exec (cxD n f nt) c (F N) (G N)=some (.exit id,Y)):exec (cxD n f nt) (.block id (.loop c)) (F 0) (G 0)=some (.normal,cond (exN p N) (X (fN p N 0)) Y):=by
 have key:=iter_find (body:=exec (cxD n f nt) c) (n:=hNext (G 0)) F G N p (fun j=>if j<N then (.exit id,X j) else (.exit id,Y))
  (fun j hj hp=>by
    obtain ⟨x,h1,h2⟩:=hs j hj
    rw[if_neg (by rw[hp];simp)] at h2
    obtain ⟨e,f1,g1⟩:=x
    obtain ⟨rfl,h3⟩:=h2
    exact ⟨_,_,h1,h3⟩)
  (fun j hj hp=>by
    obtain ⟨x,h1,h2⟩:=hs j hj
    rw[if_pos hp] at h2
    subst h2
    rw[if_pos hj]
    exact ⟨h1,by simp⟩)
  (by
    rw[if_neg (by omega)]
    exact ⟨he,by simp⟩) N 0 100000 (by omega) (by omega)
 cases hc:exN p N with
 | true =>
   have:=exN_true hc
   rw[if_pos this] at key
   exact exec_block_loop key
 | false =>
   have:=exN_false hc
   rw[if_neg (by omega)] at key
   exact exec_block_loop key
theorem cp30_lc {l:Nat} {z:Nat→Int} {j:Nat} (h:j<30):cp30 (cp30 z) j=z j:=by rw[cp30_at _ _ h,cp30_at _ _ h]
theorem lcJ_at {l:Nat} {t e:Nat→Int} {j:Nat} (h:j<l):lcJ l t e l j=laV l t e j:=by unfold lcJ;rw[if_pos h]
theorem cn_hit (p:Nat→Bool) (q:Int) (hq:0≤q):∀ l,exN (fun j=>p j && decide (q<(cn p j:Int)+1)) l=decide (q<(cn p l:Nat))
 | 0=>by
   rw[exN_no (fun j hj=>absurd hj (by omega))]
   exact (decide_eq_false (by show ¬ q<((0:Nat):Int);omega)).symm
 | l + 1 => by
   have ih:=cn_hit p q hq l
   have e:cn p (l+1)=cn p l+(p l).toNat:=rfl
   by_cases c:q<(cn p l:Nat)
   · rw[decide_eq_true c] at ih
     obtain ⟨j,hj,e2⟩:=(exN_iff _ _).1 ih
     rw[(exN_iff _ _).2 ⟨j,by omega,e2⟩,decide_eq_true (by omega)]
   · rw[decide_eq_false c] at ih
     have hn:=exN_not ih
     cases hp:p l with
     | true =>
       rw[hp] at e
       simp only[Bool.toNat_true] at e
       by_cases c2:q<((cn p (l+1):Nat):Int)
       · rw[decide_eq_true c2]
         exact (exN_iff _ _).2 ⟨l,by omega,by simp only[hp,Bool.true_and,decide_eq_true_eq];omega⟩
       · rw[decide_eq_false c2]
         refine exN_no (fun j hj=>?_)
         by_cases ej:j=l
         · subst ej;simp only[hp,Bool.true_and,decide_eq_false_iff_not];omega
         · exact hn j (by omega)
     | false =>
       rw[hp] at e
       simp only[Bool.toNat_false,Nat.add_zero] at e
       rw[e,decide_eq_false c]
       refine exN_no (fun j hj=>?_)
       by_cases ej:j=l
       · subst ej;simp only[hp,Bool.false_and]
       · exact hn j (by omega)
section
variable (n s l k m:Nat) (t d g y:Nat→Int) (u:Bool) (H:Heap) (h:Int)
theorem l69i (z:Nat→Int) (f T:Int) (hl:l≤30) (hh:0≤h∧h≤1000) (hT:0≤T∧T≤1000):∃ c,exec (cxD n 69 43) (.block 2 (.loop (part Try.f69 [1,0,1,1,1,0,1,0,0,1,1,0,0,1,1,1,0,0]))) (fr69i s l t k d g h f T 0 0) (lv30 z::H)=some (cond (decide (h*T<(cn (fun i=>decide (z i≤T)) l:Nat))) (.exit 0,[(8,.int .i64 T)],lv30 z::H) (.normal,fr69i s l t k d g h f T c (Int.ofNat l)++[(25,.bool false)],lv30 z::H)):=by
 have hm:=Int.mul_nonneg hh.1 hT.1
 have hm2:h*T≤1000*1000:=Int.mul_le_mul hh.2 hT.2 hT.1 (by omega)
 refine ⟨(cn (fun i=>decide (z i≤T)) l:Nat),?_⟩
 rw[← cn_hit _ _ hm l]
 refine forE (n:=n) (f:=69) (nt:=43) (c:=part Try.f69 [1,0,1,1,1,0,1,0,0,1,1,0,0,1,1,1,0,0]) 2 (.exit 0) (fun j=>fr69i s l t k d g h f T (cn (fun i=>decide (z i≤T)) j:Nat) (j:Nat)) (fun _=>lv30 z::H) l (fun j=>decide (z j≤T) && decide (h*T<(cn (fun i=>decide (z i≤T)) j:Int)+1)) (fun j=>([(8,.int .i64 T)],lv30 z::H)) _ (by omega) (by simp) (fun id' h=>by cases h;rfl) rfl (fun j hj=>?_) ?_
 · refine ex_all (t69i n s l k t d g z H h f T (cn (fun i=>decide (z i≤T)) j:Nat) (j:Nat)) (il_no0 n) (noBT_ok _ _) (noRT_ok _ _) ?_
   have hle:=cn_le (fun i=>decide (z i≤T)) j
   have em:mulI .i64 h T=h*T:=by rw[mulI_eq];exact wr_64 (by omega) (by omega)
   show Tr.all _ (fun r=>if (decide (z j≤T) && decide (h*T<(cn (fun i=>decide (z i≤T)) j:Int)+1))=true then _ else _∧tidy _ _ _=(fr69i s l t k d g h f T ((cn (fun i=>decide (z i≤T)) j+(decide (z j≤T)).toNat:Nat):Int) ((j+1:Nat):Int),_))
   rw[cs64 (j:=j) (by omega),cs64 (by omega)]
   simp only[id1,em]
   generalize cn (fun i=>decide (z i≤T)) j=C at *
   generalize z j=q at *
   generalize h*T=P at *
   by_cases c:q≤T
   · by_cases c2:P<(C:Int)+1
     · simp only[decide_eq_true c,decide_eq_true c2,Bool.and_self,if_true]
       repeat' first | (refine Tr.all_ite (fun hc=>?_) (fun hc=>?_)<;>(try simp (disch:=omega) only[nV,nW] at hc)<;>try omega) | (refine Tr.all_req ?_ ?_;· (try simp (disch:=omega) only[nV,nW]);try omega) | (refine Tr.all_reqP ?_ ?_;· first | exact trivial | rfl | exact ⟨rfl,rfl⟩ | exact ⟨rfl,rfl,rfl⟩ | (simp (disch:=omega) only[nV,nW];done) | ((try simp (disch:=omega) only[nV,nW]);omega)) | fail
       all_goals first
        | exact Tr.all_ok rfl
        | fail
     · simp only[decide_eq_true c,decide_eq_false c2,Bool.and_false,Bool.false_eq_true,if_false]
       repeat' first | (refine Tr.all_ite (fun hc=>?_) (fun hc=>?_)<;>(try simp (disch:=omega) only[nV,nW] at hc)<;>try omega) | (refine Tr.all_req ?_ ?_;· (try simp (disch:=omega) only[nV,nW]);try omega) | (refine Tr.all_reqP ?_ ?_;· first | exact trivial | rfl | exact ⟨rfl,rfl⟩ | exact ⟨rfl,rfl,rfl⟩ | (simp (disch:=omega) only[nV,nW];done) | ((try simp (disch:=omega) only[nV,nW]);omega)) | fail
       all_goals first
        | exact Tr.all_ok ⟨rfl,rfl⟩
        | fail
   · simp only[decide_eq_false c,Bool.false_and,Bool.false_eq_true,if_false]
     repeat' first | (refine Tr.all_ite (fun hc=>?_) (fun hc=>?_)<;>(try simp (disch:=omega) only[nV,nW] at hc)<;>try omega) | (refine Tr.all_req ?_ ?_;· (try simp (disch:=omega) only[nV,nW]);try omega) | (refine Tr.all_reqP ?_ ?_;· first | exact trivial | rfl | exact ⟨rfl,rfl⟩ | exact ⟨rfl,rfl,rfl⟩ | (simp (disch:=omega) only[nV,nW];done) | ((try simp (disch:=omega) only[nV,nW]);omega)) | fail
     all_goals first
      | exact Tr.all_ok ⟨rfl,rfl⟩
      | fail
 · obtain ⟨r,h1,rfl⟩:=ex_all (Q:=fun r=>r=(.exit 2,fr69i s l t k d g h f T (cn (fun i=>decide (z i≤T)) l:Nat) (Int.ofNat l)++[(25,.bool false)],lv30 z::H)) (t69i n s l k t d g z H h f T (cn (fun i=>decide (z i≤T)) l:Nat) (Int.ofNat l)) (il_no0 n) (noBT_ok _ _) (noRT_ok _ _) (by
    refine Tr.all_ite (fun hc=>?_) (fun hc=>Tr.all_ok rfl)
    simp (disch:=omega) only[nV,nW] at hc;omega)
   exact h1
theorem l69 (z:Nat→Int) (hl:l≤30) (hh:0≤h∧h≤1000):exec (cxD n 69 43) (.block 0 (.loop (part Try.f69 [1,0,1,1,1,0,1,0,0]))) (fr69 s l t k d g h (-1) 0) (lv30 z::H)=some (.normal,cond (exN (fun T=>decide (h*(T:Int)<(cn (fun i=>decide (z i≤(T:Int))) l:Nat))) 41) ([(8,.int .i64 (fN (fun T=>decide (h*(T:Int)<(cn (fun i=>decide (z i≤(T:Int))) l:Nat))) 41 0:Nat))],lv30 z::H) (fr69 s l t k d g h (-1) 41++[(16,.bool false)],lv30 z::H)):=by
 refine forN (n:=n) (f:=69) (nt:=43) (c:=part Try.f69 [1,0,1,1,1,0,1,0,0]) 0 (fun j=>fr69 s l t k d g h (-1) (j:Nat)) (fun _=>lv30 z::H) 41 (fun T=>decide (h*(T:Int)<(cn (fun i=>decide (z i≤(T:Int))) l:Nat))) (fun j=>([(8,.int .i64 (j:Nat))],lv30 z::H)) _ (by omega) (fun j hj=>?_) ?_
 · obtain ⟨c,hx⟩:=l69i n s l k t d g H h z (-1) (j:Nat) hl hh (by omega)
   have hp:(decide (h*(j:Int)<(cn (fun i=>decide (z i≤(j:Int))) l:Nat)))=(decide (h*(j:Int)<(cn (fun i=>decide (z i≤(j:Int))) l:Nat))):=rfl
   generalize hb:(decide (h*(j:Int)<(cn (fun i=>decide (z i≤(j:Int))) l:Nat)))=b at hx hp ⊢
   refine ex_all (t69 n s l k t d g z H h (-1) (j:Nat) c b) (il_no0 n) (blkE_ok (noBT_ok _ _) b69i (fun x hy=>blk_ite hy hx)) (noRT_ok _ _) ?_
   show Tr.all _ (fun r=>if b=true then _ else _)
   rw[cs64 (j:=j) (by omega)]
   cases b with
   | true =>
     simp only[if_true]
     repeat' first | (refine Tr.all_ite (fun hc=>?_) (fun hc=>?_)<;>(try simp (disch:=omega) only[nV,nW] at hc)<;>try omega) | (refine Tr.all_req ?_ ?_;· (try simp (disch:=omega) only[nV,nW]);try omega) | (refine Tr.all_reqP ?_ ?_;· first | exact trivial | rfl | exact ⟨rfl,rfl⟩ | exact ⟨rfl,rfl,rfl⟩ | (simp (disch:=omega) only[nV,nW];done) | ((try simp (disch:=omega) only[nV,nW]);omega)) | fail
     all_goals first
      | exact Tr.all_ok rfl
      | fail
   | false =>
     simp only[Bool.false_eq_true,if_false]
     repeat' first | (refine Tr.all_ite (fun hc=>?_) (fun hc=>?_)<;>(try simp (disch:=omega) only[nV,nW] at hc)<;>try omega) | (refine Tr.all_req ?_ ?_;· (try simp (disch:=omega) only[nV,nW]);try omega) | (refine Tr.all_reqP ?_ ?_;· first | exact trivial | rfl | exact ⟨rfl,rfl⟩ | exact ⟨rfl,rfl,rfl⟩ | (simp (disch:=omega) only[nV,nW];done) | ((try simp (disch:=omega) only[nV,nW]);omega)) | fail
     all_goals first
      | exact Tr.all_ok ⟨rfl,rfl⟩
      | fail
 · obtain ⟨r,h1,rfl⟩:=ex_all (Q:=fun r=>r=(.exit 0,fr69 s l t k d g h (-1) 41++[(16,.bool false)],lv30 z::H)) (t69x n s l k t d g z H h (-1) 41) (il_no0 n) (stopB_ok (noBT_ok _ _) 2) (noRT_ok _ _) (by
    refine Tr.all_ite (fun hc=>?_) (fun hc=>Tr.all_ok rfl)
    simp (disch:=omega) only[nV,nW] at hc;omega)
   exact h1
theorem c69 (hl:l≤30) (hm:m=l) (ht:∀ j,j<l→t j<l) (hc:cycB l t=false) (hy:∀ j,j<l→-900≤y j∧y j≤900) (hh:0≤h∧h≤1000) :
 cd (n+4) (.fn 69) [tbA s l t k d g,sl1 m y u,.int .i64 h] H=some (.int .i64 (crT l t y h),H):=by
 have hx:=l69 (n+3) s l k t d g H h (cp30 (cp30 (lcJ l t y l))) hl hh
 rw[show (fun T:Nat=>decide (h*(T:Int)<(cn (fun i=>decide (cp30 (cp30 (lcJ l t y l)) i≤(T:Int))) l:Nat)))=fun T:Nat=>crB l t y h (T:Nat) from by
  funext T
  rw[cn_congr (q:=fun i=>decide (laV l t y i≤(T:Nat))) (fun j hj=>by rw[cp30_lc (l:=l) (by omega),lcJ_at hj])]
  rfl] at hx
 have hC:(tX noCt 53 [tbA (s+1) l t k d g,sl1 m y u] (.agg (.M [.arr .i64 (cp30 (lcJ l t y l)) 30]))).Ok (cd (n+3)):=tX_ok (noCt_ok _) (fun H=>c53 n (s+1) l k m t d g y u H hl hm ht hc hy)
 cases e:exN (fun T:Nat=>crB l t y h (T:Nat)) 41 with
 | true =>
   rw[e] at hx
   have hr:crT l t y h=(fN (fun T:Nat=>crB l t y h (T:Nat)) 41 0:Nat):=by unfold crT ixF;rw[if_pos e]
   rw[← hr] at hx
   refine fn_all (n:=n+3) Try.func69 rfl rfl rfl (u69 (n+3) s l k m t d g y (cp30 (lcJ l t y l)) u H h (crT l t y h) []) (il_ok0 _ (n+3) hC) (blkE_ok (noBT_ok _ _) b69 (fun x hy=>blk_ok hy hx)) (noRT_ok _ _) ?_
   generalize cp30 (lcJ l t y l)=z at *
   generalize crT l t y h=C at *
   repeat' first | (refine Tr.all_ite (fun hc=>?_) (fun hc=>?_)<;>(try simp (disch:=omega) only[nV,nW] at hc)<;>try omega) | (refine Tr.all_req ?_ ?_;· (try simp (disch:=omega) only[nV,nW]);try omega) | (refine Tr.all_reqP ?_ ?_;· first | exact trivial | rfl | exact ⟨rfl,rfl⟩ | exact ⟨rfl,rfl,rfl⟩ | (simp (disch:=omega) only[nV,nW];done) | ((try simp (disch:=omega) only[nV,nW]);omega)) | fail
   all_goals first
    | exact Tr.all_ok ⟨rfl,rfl⟩
    | fail
 | false =>
   rw[e] at hx
   have hr:crT l t y h=-1:=by unfold crT ixF;rw[if_neg (by rw[e];decide)]
   rw[hr]
   refine fn_all (n:=n+3) Try.func69 rfl rfl rfl (u69b (n+3) s l k m t d g y (cp30 (lcJ l t y l)) u H h) (il_ok0 _ (n+3) hC) (blkE_ok (noBT_ok _ _) b69 (fun x hy=>blk_ok hy hx)) (noRT_ok _ _) ?_
   generalize cp30 (lcJ l t y l)=z at *
   repeat' first | (refine Tr.all_ite (fun hc=>?_) (fun hc=>?_)<;>(try simp (disch:=omega) only[nV,nW] at hc)<;>try omega) | (refine Tr.all_req ?_ ?_;· (try simp (disch:=omega) only[nV,nW]);try omega) | (refine Tr.all_reqP ?_ ?_;· first | exact trivial | rfl | exact ⟨rfl,rfl⟩ | exact ⟨rfl,rfl,rfl⟩ | (simp (disch:=omega) only[nV,nW];done) | ((try simp (disch:=omega) only[nV,nW]);omega)) | fail
   all_goals first
    | exact Tr.all_ok ⟨rfl,rfl⟩
    | fail
end
end Go.Eng
end
