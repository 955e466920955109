/- Lay: Plan: its rounds. -/
import Derived.Test.YtoomemfhcbajoaaV6Lp10x7
set_option linter.unusedVariables false
set_option linter.unusedSimpArgs false
set_option maxRecDepth 100000
section
namespace Go.Eng
open Go.Proofs
noncomputable def CF (m:Nat) (o:Nat→Int):aT:=⟨false,[(0,.row (.M [.arr .i64 (eG (fun _=>Int.ofNat 0) 0 o (qF m (dr (Int.ofNat m)))) (dr (Int.ofNat m))]))]⟩
noncomputable def CG (m:Nat) (y:Nat→Int):aT:=⟨false,[(0,.row (.M [.arr .i64 y (dr (Int.ofNat m))]))]⟩
noncomputable def Cf (l:Nat) (t:Nat→Int) (k:Nat) (d e:Nat→Int) (h:Int) (m:Nat) (o:Nat→Int):aq:=[(8,.ptr 2 1 0 0),(22,.fn (.func 85) [] [.ptrT (some 2) (.G [dy 0 l t k d e]) 0,.ptrT none (.I .i64 [h]) 0]),(23,b6 m o false)]
noncomputable def vM (m:Nat) (o:Nat→Int):aq:=[(8,.ptr 2 1 0 0),(9,b6 m o false)]
theorem ND (n l k:Nat) (t d e:Nat→Int) (h:Int) (m:Nat) (o:Nat→Int) (L:ij) (L1:aT) (H:aa):aJ (wS n 27 37 2 2) (il aE n 0) aG aH (part Try.f27 [1,1,1,1,0,1,0,0]) (hints (Cf l t k d e h m o)) (av::L1::xm l t k d L::H) =
 Tr.ok (Ex.normal,[(8,AV.ptr 2 1 0 0,none),(9,AV.slcT none (Row.M [ah.arr .i64 o m]) 1 m false,none)],av::L1::{ lock:=false,bs:=[(0,ai.row (Row.G [AV.slcT none (Row.M [ah.arr .i64 t l]) 1 l false,AV.slcT none (Row.M [ah.arr .i64 d k]) 1 k false])),(0,ai.row (Row.G [AV.nils])),(0,ai.loop L)] } :: H):=by kernel_rfl
theorem NB (n l k:Nat) (t d:Nat→Int) (m:Nat) (o y:Nat→Int) (L:ij) (L1:aT) (H:aa):aJ (wS n 27 37 2 2) (il (uG aE 63 [.slc 0 0 0 0 1 (dr (Int.ofNat m)) (some (dr (Int.ofNat m)))] (CF m o::L1::xm l t k d L::H) (.ok (.tup [],CG m y::L1::xm l t k d L::H))) n 0) aG aH (part Try.f27 [1,1,1,1,0,1,0,1]) (hints (vM m o)) (av::L1::xm l t k d L::H) =
 (fun (Z0:Nat×ai)=>((fun (Z1:aT)=>Tr.req (D7 (Int.ofNat m) (Int.ofNat m) 8) (Tr.req (gM (qF m (dr (Int.ofNat m))) m) (Tr.req (gM (bO 0 (qF m (dr (Int.ofNat m)))) m) (Tr.req (b9 0 0) (Tr.req (gq 0 (qF m (dr (Int.ofNat m))) 0 (dr (Int.ofNat m))) (Tr.reqP ([AV.slc 0 0 0 0 1 (dr (Int.ofNat m)) (some (dr (Int.ofNat m)))]=[AV.slc 0 0 0 0 1 (dr (Int.ofNat m)) (some (dr (Int.ofNat m)))]∧Z1::L1::{ lock:=false,bs:=[Z0,(0,ai.row (Row.G [AV.nils])),(0,ai.loop L)] } :: H=Z1::L1::{ lock:=false,bs:=[Z0,(0,ai.row (Row.G [AV.nils])),(0,ai.loop L)] } :: H) (Tr.req (b9 0 0) (Tr.req (gq 0 (dr (Int.ofNat m)) 0 (dr (Int.ofNat m))) (Tr.req (eO 0 1 24) (Tr.req (b9 0 0) (Tr.req (gM 1 1) (Tr.ok (Ex.normal,[],{ lock:=false,bs:=[(0,ai.dead),(0,ai.row (Row.G [AV.slcT none (Row.M [ah.arr .i64 (dD y 0) (dr (Int.ofNat m))]) 1 (dr (Int.ofNat m)) (b9 (dr (Int.ofNat m)) (dr (Int.ofNat m)))])),(0,ai.dead)] } :: L1::{ lock:=false,bs:=[Z0,(0,ai.row (Row.G [AV.slc 0 3 0 0 1 1 none])),(0,ai.loop L),(0,ai.row (Row.F (fun x=>AV.slcT none (Row.M [ah.arr .i64 (dD y 0) (dr (Int.ofNat m))]) 1 (dr (Int.ofNat m)) false) 1))] } :: H))))))))))))) { lock:=false,bs:=[(0,ai.row (Row.M [ah.arr .i64 (eG (fun x=>Int.ofNat 0) 0 o (qF m (dr (Int.ofNat m)))) (dr (Int.ofNat m))]))] })) (0,ai.row (Row.G [AV.slcT none (Row.M [ah.arr .i64 t l]) 1 l false,AV.slcT none (Row.M [ah.arr .i64 d k]) 1 k false])):=by kernel_rfl
theorem NF (n l k:Nat) (t d e:Nat→Int) (h:Int) (m:Nat) (o:Nat→Int) (L:ij) (v q:Nat) (f:Nat→Nat→Int) (g:Nat→Nat) (L1:aT) (H:aa):aJ (wS n 27 37 2 2) (il aE n 0) aG aH (part Try.f27 [1,1,1,1,0,1,0,0]) (hints (Cf l t k d e h m o)) (av::L1::jH l t k d L v q f g::H) =
 Tr.ok (Ex.normal,[(8,AV.ptr 2 1 0 0,none),(9,AV.slcT none (Row.M [ah.arr .i64 o m]) 1 m false,none)],av::L1::{ lock:=false,bs:=[(0,ai.row (Row.G [AV.slcT none (Row.M [ah.arr .i64 t l]) 1 l false,AV.slcT none (Row.M [ah.arr .i64 d k]) 1 k false])),(0,ai.row (Row.G [AV.slc 0 3 v 0 1 q none])),(0,ai.loop L),(v,ai.row (Row.F (fun j=>AV.slcT none (Row.M [ah.arr .i64 (f j) (g j)]) 1 (g j) false) q))] } :: H):=by kernel_rfl
theorem NC (n l k:Nat) (t d:Nat→Int) (m:Nat) (o y:Nat→Int) (L:ij) (v q:Nat) (f:Nat→Nat→Int) (g:Nat→Nat) (L1:aT) (H:aa):aJ (wS n 27 37 2 2) (il (uG aE 63 [.slc 0 0 0 0 1 (dr (Int.ofNat m)) (some (dr (Int.ofNat m)))] (CF m o::L1::jH l t k d L v q f g::H) (.ok (.tup [],CG m y::L1::jH l t k d L v q f g::H))) n 0) aG aH (part Try.f27 [1,1,1,1,0,1,0,1]) (hints (vM m o)) (av::L1::jH l t k d L v q f g::H) =
 (fun (Z0:aT)=>((fun (Z1:aT)=>Tr.req (D7 (Int.ofNat m) (Int.ofNat m) 8) (Tr.req (gM (qF m (dr (Int.ofNat m))) m) (Tr.req (gM (bO 0 (qF m (dr (Int.ofNat m)))) m) (Tr.req (b9 0 0) (Tr.req (gq 0 (qF m (dr (Int.ofNat m))) 0 (dr (Int.ofNat m))) (Tr.reqP ([AV.slc 0 0 0 0 1 (dr (Int.ofNat m)) (some (dr (Int.ofNat m)))]=[AV.slc 0 0 0 0 1 (dr (Int.ofNat m)) (some (dr (Int.ofNat m)))]∧Z1::L1::Z0::H=Z1::L1::Z0::H) (Tr.req (b9 0 0) (Tr.req (gq 0 (dr (Int.ofNat m)) 0 (dr (Int.ofNat m))) (Tr.req (eO q 1 24) (Tr.req (b9 0 0) (Tr.req (gM 1 1) (Tr.req (b9 v v) (Tr.req (b9 (bO 0 q) q) (Tr.reqP (EN (fun j=>AV.slcT none (Row.M [ah.arr .i64 (f (bO 0 j)) (g (bO 0 j))]) 1 (g (bO 0 j)) false) IntKind.i64 1 false) (Tr.ok (Ex.normal,[],{ lock:=false,bs:=[(0,ai.dead),(0,ai.row (Row.G [AV.slcT none (Row.M [ah.arr .i64 (dD y 0) (dr (Int.ofNat m))]) 1 (dr (Int.ofNat m)) (b9 (dr (Int.ofNat m)) (dr (Int.ofNat m)))]))] } :: L1::{ lock:=false,bs:=[(0,ai.row (Row.G [AV.slcT none (Row.M [ah.arr .i64 t l]) 1 l false,AV.slcT none (Row.M [ah.arr .i64 d k]) 1 k false])),(0,ai.row (Row.G [AV.slc 0 3 (Nat.succ v) 0 1 (bO q 1) none])),(0,ai.loop L),(Nat.succ v,ai.row (Row.F (fun j=>AV.slcT none (Row.M [ah.arr .i64 (IN (cr j q) (f (bO 0 j)) (dD y 0)) (Es (cr j q) (g (bO 0 j)) (dr (Int.ofNat m)))]) 1 (Es (cr j q) (g (bO 0 j)) (dr (Int.ofNat m))) false) (bO q 1)))] } :: H)))))))))))))))) { lock:=false,bs:=[(0,ai.row (Row.M [ah.arr .i64 (eG (fun x=>Int.ofNat 0) 0 o (qF m (dr (Int.ofNat m)))) (dr (Int.ofNat m))]))] })) { lock:=false,bs:=[(0,ai.row (Row.G [AV.slcT none (Row.M [ah.arr .i64 t l]) 1 l false,AV.slcT none (Row.M [ah.arr .i64 d k]) 1 k false])),(0,ai.row (Row.G [AV.slc 0 3 v 0 1 q none])),(0,ai.loop L),(v,ai.row (Row.F (fun j=>AV.slcT none (Row.M [ah.arr .i64 (f j) (g j)]) 1 (g j) false) q))] }:=by kernel_rfl
noncomputable def zj:Code:=part Try.f27 [1,1,1,1,0,1,0,0]
noncomputable def zk:Code:=part Try.f27 [1,1,1,1,0,1,0,1]
noncomputable def dN (l:Nat) (t:Nat→Int) (k:Nat) (d e:Nat→Int) (h:Int):ij:={ state:=.ready,pending:=none,fn:=27,nt:=37,fr:=[(8,.ptr 0 1 0 0),(22,.fn (.func 85) [] [.ptrT (some 0) (.G [dy 0 l t k d e]) 0,.ptrT none (.I .i64 [h]) 0])],params:=[23],assign:=zj,body:=zk }
noncomputable def wy (m:Nat) (o:Nat→Int):Nat→Int:=iJ (eG (fun _=>Int.ofNat 0) 0 o m) (m-1)
theorem pP (m:Nat):dr (Int.ofNat m)=m:=by rw[lP];rfl
section
variable (n l k:Nat) (t d e:Nat→Int) (h:Int) (m:Nat) (o:Nat→Int) (L1:aT) (H:aa)
theorem L6 (G:aa) (h1:1≤m) (hm:m≤12):cd (n+5) (.fn 63) [.slc 0 0 0 0 1 (dr (Int.ofNat m)) (some (dr (Int.ofNat m)))] (CF m o::G)=some (.tup [],CG m (wy m o)::G):=by
 have:=Sz n G 0 (fun _=>0) (eG (fun _=>Int.ofNat 0) 0 o m) .undef 0 m h1 hm
 unfold CF CG wy
 rw[pP,pA,Nat.min_self]
 exact this
theorem Ns (h1:1≤m) (hm:m≤12):cd (n+6) (.round 1 2) [b6 m o false] (L1::xm l t k d (dN l t k d e h)::H)=some (.bool true,L1::jH l t k d (dN l t k d e h) 0 1 (fun _=>wy m o) (fun _=>m)::H):=by
 have h1':exec (wS (n+5) 27 37 2 2) zj (Cf l t k d e h m o) (av::L1::xm l t k d (dN l t k d e h)::H)=some (.normal,vM m o,av::L1::xm l t k d (dN l t k d e h)::H) :=
  qe (ND (n+5) l k t d e h m o (dN l t k d e h) L1 H) (ao _) (af _ _) (ag _ _) (Tr.bf rfl)
 have h2':∃ lv:aT,exec (wS (n+5) 27 37 2 2) zk (vM m o) (av::L1::xm l t k d ({ dN l t k d e h with state:=.busy })::H)=some (.normal,[],lv::L1::jH l t k d ({ dN l t k d e h with state:=.busy }) 0 1 (fun _=>wy m o) (fun _=>m)::H):=by
  refine ⟨⟨false,[(0,.dead),(0,.row (.G [.slcT none (.M [.arr .i64 (wy m o) m]) 1 m (b9 m m)])),(0,.dead)]⟩,qe (NB (n+5) l k t d m o (wy m o) { dN l t k d e h with state:=.busy } L1 H) (aO _ (n+5) (dQ (aF _) (fun x hx=>by rw[← Tr.ab hx];exact L6 n m o _ h1 hm))) (af _ _) (ag _ _) ?_⟩
  generalize dN l t k d e h=L at *
  generalize wy m o=Y at *
  simp only[pP,cT,x0,xZ,bH,gG,Nat.zero_add,Bool.cond_decide,pA,Nat.min_self,and_self]
  exact wF
 obtain ⟨lv,h2'⟩:=h2'
 exact ua (l:=dN l t k d e h) (l2:={ dN l t k d e h with state:=.busy }) rfl rfl rfl rfl h1' h2' rfl rfl
theorem Nt (v q:Nat) (f:Nat→Nat→Int) (g:Nat→Nat) (h1:1≤m) (hm:m≤12) (hq:q<1000):cd (n+6) (.round 1 2) [b6 m o false] (L1::jH l t k d (dN l t k d e h) v q f g::H)=some (.bool true,L1::jH l t k d (dN l t k d e h) (v+1) (q+1) (fun j=>if j<q then f j else wy m o) (fun j=>if j<q then g j else m)::H):=by
 have h1':exec (wS (n+5) 27 37 2 2) zj (Cf l t k d e h m o) (av::L1::jH l t k d (dN l t k d e h) v q f g::H)=some (.normal,vM m o,av::L1::jH l t k d (dN l t k d e h) v q f g::H) :=
  qe (NF (n+5) l k t d e h m o (dN l t k d e h) v q f g L1 H) (ao _) (af _ _) (ag _ _) (Tr.bf rfl)
 have h2':∃ lv:aT,exec (wS (n+5) 27 37 2 2) zk (vM m o) (av::L1::jH l t k d ({ dN l t k d e h with state:=.busy }) v q f g::H)=some (.normal,[],lv::L1::jH l t k d ({ dN l t k d e h with state:=.busy }) (v+1) (q+1) (fun j=>if j<q then f j else wy m o) (fun j=>if j<q then g j else m)::H):=by
  refine ⟨⟨false,[(0,.dead),(0,.row (.G [.slcT none (.M [.arr .i64 (wy m o) m]) 1 m (b9 m m)]))]⟩,qe (NC (n+5) l k t d m o (wy m o) { dN l t k d e h with state:=.busy } v q f g L1 H) (aO _ (n+5) (dQ (aF _) (fun x hx=>by rw[← Tr.ab hx];exact L6 n m o _ h1 hm))) (af _ _) (ag _ _) ?_⟩
  generalize dN l t k d e h=L at *
  generalize wy m o=Y at *
  simp only[pP,cT,x0,xZ,bH,gG,Nat.zero_add,Bool.cond_decide,pA,Nat.min_self,and_self]
  have ha:EN (fun j=>.slcT none (.M [.arr .i64 (f j) (g j)]) 1 (g j) false) .i64 1 false:=by rw[BW];exact fun j=>⟨_,_,_,rfl⟩
  repeat' first | (refine Tr.bm (fun hc=>?_) (fun hc=>?_)<;>(try simp (disch:=omega) only[nV,nW,ha] at hc)<;>try omega) | (refine Tr.cA ?_ ?_;· (try simp (disch:=omega) only[nV,nW,ha]);try omega) | (refine Tr.ba ?_ ?_;· first | exact trivial | rfl | exact ⟨rfl,rfl⟩ | exact ⟨rfl,rfl,rfl⟩ | (simp (disch:=omega) only[nV,nW,ha];done) | ((try simp (disch:=omega) only[nV,nW,ha]);omega)) | fail
  all_goals first
   | exact Tr.bf rfl
   | fail
 obtain ⟨lv,h2'⟩:=h2'
 exact ua (l:=dN l t k d e h) (l2:={ dN l t k d e h with state:=.busy }) rfl rfl rfl rfl h1' h2' rfl rfl
end
end Go.Eng
end
section
namespace Go.Eng
open Go.Proofs
noncomputable def Gd (l:Nat) (t:Nat→Int) (k:Nat) (d:Nat→Int):aT:=⟨false,[(0,.row (.G [b6 l t false,b6 k d false])),(0,.row (.G [.nils]))]⟩
noncomputable def Jx (l:Nat) (t:Nat→Int) (k:Nat) (d:Nat→Int) (v m:Nat) (f:Nat→Nat→Int) (g:Nat→Nat):aT:=⟨false,[(0,.row (.G [b6 l t false,b6 k d false])),(0,.row (.G [.slc 0 3 v 0 1 m none])),(0,.dead),(v,.row (.F (fun j=>b6 (g j) (f j) false) m))]⟩
noncomputable def yJ (l:Nat) (t:Nat→Int) (k:Nat) (d e:Nat→Int) (h:Int):aq:=[(8,.ptr 0 1 0 0),(22,.fn (.func 85) [] [.ptrT (some 0) (.G [dy 0 l t k d e]) 0,.ptrT none (.I .i64 [h]) 0])]
theorem Va (n s l k:Nat) (t d g:Nat→Int) (h:Int) (H:aa):aX Try.prog (cd n) 100000 62 Try.f62 (KtL.kt 62) (il aE n 0) aG aH [(dy s l t k d g,none),(.int .i64 h,none)] H =
 Tr.ok ((AV.fn (Fn.func 85) [] [AV.ptrT (some 0) (Row.G [AV.ptrT (some s) (Row.M [ah.one (AV.slcT none (Row.M [ah.arr .i64 t l]) 1 l false),ah.one (AV.slcT none (Row.M [ah.arr .i64 d k]) 1 k false),ah.arr .i64 g 30]) 0]) 0,AV.ptrT none (Row.I .i64 [h]) 0],none),H):=by kernel_rfl
theorem UT (n l k:Nat) (t d e:Nat→Int) (h:Int) (v m:Nat) (f:Nat→Nat→Int) (g:Nat→Nat) (H:aa):aX Try.prog (cd n) 100000 27 Try.f27 (KtL.kt 27) (il (tX (tX aE 61 [b5 l t k d,.int .i64 h,.int .i64 0] (.tup [dy 0 l t k d e,.int .i64 0])) 62 [dy 0 l t k d e,.int .i64 h] (.fn (.func 85) [] [.ptrT (some 0) (.G [dy 0 l t k d e]) 0,.ptrT none (.I .i64 [h]) 0])) n 0) aG (LL aH (fun _=>true) (yJ l t k d e h) (Gd l t k d::H) (.ok (.normal,hints (yJ l t k d e h),Jx l t k d v m f g::H))) [(b5 l t k d,none),(.int .i64 h,none)] H =
 (fun (Z0:Row)=>((fun (Z1:Row)=>((fun (Z2:aq)=>Tr.reqP ([AV.agg Z1,AV.int .i64 h,AV.int .i64 (Int.ofNat 0)]=[AV.agg Z1,AV.int .i64 h,AV.int .i64 (Int.ofNat 0)]) (Tr.ite (aP (b7 (Int.ofNat 0) (Int.ofNat 0))) (Tr.ok ((AV.tup [AV.nils,AV.int .i64 (Int.ofNat 0)],none),H)) (Tr.reqP ([AV.ptrT (some 0) Z0 0,AV.int .i64 h]=[AV.ptrT (some 0) Z0 0,AV.int .i64 h]) (Tr.reqP (Z2=Z2∧{ lock:=false,bs:=[(0,ai.row Z1),(0,ai.row (Row.G [AV.nils]))] } :: H={ lock:=false,bs:=[(0,ai.row Z1),(0,ai.row (Row.G [AV.nils]))] } :: H) (Tr.req (b9 v v) (Tr.req (gq 0 m 0 m) (Tr.ok ((AV.tup [AV.slcT none (Row.F (fun j=>AV.slcT none (Row.M [ah.arr .i64 (f (bO 0 j)) (g (bO 0 j))]) 1 (g (bO 0 j)) false) m) 1 m false,AV.int .i64 (Int.ofNat 0)],none),H)))))))) [(8,AV.ptr 0 1 0 0),(22,AV.fn (Fn.func 85) [] [AV.ptrT (some 0) (Row.G [AV.ptrT (some 0) Z0 0]) 0,AV.ptrT none (Row.I .i64 [h]) 0])])) (Row.G [AV.slcT none (Row.M [ah.arr .i64 t l]) 1 l false,AV.slcT none (Row.M [ah.arr .i64 d k]) 1 k false]))) (Row.M [ah.one (AV.slcT none (Row.M [ah.arr .i64 t l]) 1 l false),ah.one (AV.slcT none (Row.M [ah.arr .i64 d k]) 1 k false),ah.arr .i64 e 30]):=by kernel_rfl
theorem Q4 (n l k:Nat) (t d:Nat→Int) (h c:Int) (H:aa):aX Try.prog (cd n) 100000 27 Try.f27 (KtL.kt 27) (il (tX aE 61 [b5 l t k d,.int .i64 h,.int .i64 0] (.tup [.nilp,.int .i64 c])) n 0) aG (LL aH (fun _=>true) [] [] .bad) [(b5 l t k d,none),(.int .i64 h,none)] H =
 (fun (Z0:List AV)=>Tr.reqP (Z0=Z0) (Tr.ite (aP (b7 c (Int.ofNat 0))) (Tr.ok ((AV.tup [AV.nils,AV.int .i64 c],none),H)) Tr.bad)) [AV.agg (Row.G [AV.slcT none (Row.M [ah.arr .i64 t l]) 1 l false,AV.slcT none (Row.M [ah.arr .i64 d k]) 1 k false]),AV.int .i64 h,AV.int .i64 (Int.ofNat 0)]:=by kernel_rfl
end Go.Eng
end
section
namespace Go.Eng
open Go.Proofs
theorem Sy (n s l k:Nat) (t d g:Nat→Int) (h:Int) (H:aa):cd (n+1) (.fn 62) [dy s l t k d g,.int .i64 h] H=some (.fn (.func 85) [] [.ptrT (some 0) (.G [dy s l t k d g]) 0,.ptrT none (.I .i64 [h]) 0],H):=by
 refine aD (n:=n) Try.func62 rfl rfl rfl (Va n s l k t d g h H) (ao _) (af _ _) (ag _ _) ?_
 exact wF
noncomputable def gP (l k:Nat) (t d:Nat→Int) (h:Int) (m j:Nat):Nat:=(sf l k t d h (min j m)).length
noncomputable def fP (l k:Nat) (t d:Nat→Int) (h:Int) (m j:Nat):Nat→Int:=wy (gP l k t d h m j) (ay (sf l k t d h (min j m)))
theorem HT (l k:Nat) (t d:Nat→Int) (h:Int) (m:Nat):(fun j=>if j<m+1 then gP l k t d h m j else (sf l k t d h (m+1)).length)=gP l k t d h (m+1):=by
 funext j
 unfold gP
 by_cases c:j<m+1
 · rw[if_pos c,show min j m=j by omega,show min j (m+1)=j by omega]
 · rw[if_neg c,show min j (m+1)=m+1 by omega]
theorem HN (l k:Nat) (t d:Nat→Int) (h:Int) (m:Nat):(fun j=>if j<m+1 then fP l k t d h m j else wy (sf l k t d h (m+1)).length (ay (sf l k t d h (m+1))))=fP l k t d h (m+1):=by
 funext j
 unfold fP gP
 by_cases c:j<m+1
 · rw[if_pos c,show min j m=j by omega,show min j (m+1)=j by omega]
 · rw[if_neg c,show min j (m+1)=m+1 by omega]
section
variable (n l k:Nat) (t d:Nat→Int) (h:Int) (H:aa)
theorem BE (hs:Sh l t k d) (hc:bC l t d h=true) (hh:1≤h∧h≤10) (m:Nat) (hm:m<dY l t d h):1≤(sf l k t d h m).length∧(sf l k t d h m).length≤h.toNat:=by
 have e:h=(h.toNat:Int):=by omega
 obtain ⟨M,a,b,c,f⟩:=GV (H:=h.toNat) (z:=zP l t k d (dY l t d h:Nat)) (f0:=bG (cQ t l)) hs.l30 hs.tl (by omega) (fun i hi=>by
  rw[oY hs i hi]
  have:=oO (fun x=>decide (t x=(i:Int))) l
  have:=hs.l30
  omega)
 have hM:=wD hs hc e a b c
 obtain ⟨P,p1,p2⟩:=f m (by omega)
 obtain ⟨q,a1,a2,a3,a4,a5,a6,_⟩:=G5 (z:=zP l t k d (dY l t d h:Nat)) hs.l30 hs.tl (show 0<h.toNat by omega) (b m (by omega)) p2
 unfold sf Lj
 rw[a5,a6]
 omega
noncomputable def Kx (l k:Nat) (t d:Nat→Int) (h:Int) (H:aa):Nat→aa
 | 0=>xm l t k d (dN l t k d (cQ t l) h)::H
 | m+1=>jH l t k d (dN l t k d (cQ t l) h) m (m+1) (fP l k t d h m) (gP l k t d h m)::H
theorem Vv (hs:Sh l t k d) (hc:bC l t d h=true) (hh:1≤h∧h≤10) (T:Nat) (hT:dY l t d h=T+1):exec (bn (n+7) 27 37) (.rangeFunc (.tmp 22) #[23] zj zk) (yJ l t k d (cQ t l) h) (Gd l t k d::H)=some (.normal,yJ l t k d (cQ t l) h,Jx l t k d T (T+1) (fP l k t d h T) (gP l k t d h T)::H):=by
 have hy:∀ m,m<dY l t d h→∀ L:aT,L.lock=false→cd (n+1+5) (.round 1 2) [b6 (sf l k t d h m).length (ay (sf l k t d h m)) false] (L::Kx l k t d h H m)=some (.bool true,L::Kx l k t d h H (m+1)):=fun m hm L _=>by
  obtain ⟨r1,r2⟩:=BE l k t d h hs hc hh m hm
  have htr:=(lQ hs hc).2.2
  cases m with
  | zero =>
    have:=Ns n l k t d (cQ t l) h (sf l k t d h 0).length (ay (sf l k t d h 0)) L H r1 (by omega)
    have e1:gP l k t d h 0=fun _=>(sf l k t d h 0).length:=by funext j;unfold gP;rw[Nat.min_zero]
    have e2:fP l k t d h 0=fun _=>wy (sf l k t d h 0).length (ay (sf l k t d h 0)):=by funext j;unfold fP gP;rw[Nat.min_zero]
    show _=some (_,L::jH l t k d (dN l t k d (cQ t l) h) 0 1 (fP l k t d h 0) (gP l k t d h 0)::H)
    rw[e1,e2]
    exact this
  | succ m =>
    have:=Nt n l k t d (cQ t l) h (sf l k t d h (m+1)).length (ay (sf l k t d h (m+1))) L H m (m+1) (fP l k t d h m) (gP l k t d h m) r1 (by omega) (by omega)
    rw[HT,HN] at this
    exact this
 have hcall:=OY (n+1) 0 l k t d h (Kx l k t d h H) hs hc hh hy
 rw[hT] at hcall
 exact Aa (cx:=bn (n+7) 27 37) (l:=dN l t k d (cQ t l) h) (f:=.tmp 22) (ps:=#[23]) (fr:=yJ l t k d (cQ t l) h) (H:=Gd l t k d::H) (g:=85) (a:=[]) (b:=[.ptrT (some 0) (.G [dy 0 l t k d (cQ t l)]) 0,.ptrT none (.I .i64 [h]) 0]) rfl rfl rfl hcall rfl rfl rfl
theorem UM:eB (bj Try.f27)=[(.tmp 22,#[23],zj,zk)]:=by kernel_rfl
noncomputable def Ox (l k:Nat) (t d:Nat→Int) (h:Int):AV:=if fE l k t d h=0 then .tup [dA (dY l t d h) (fP l k t d h (dY l t d h-1)) (gP l k t d h (dY l t d h-1)),.int .i64 0] else .tup [.nils,.int .i64 (fE l k t d h)]
theorem RQ:cd (n+12) (.fn 27) [b5 l t k d,.int .i64 h] H=some (Ox l k t d h,H):=by
 unfold Ox
 by_cases e:fE l k t d h=0
 · rw[if_pos e]
   obtain ⟨e1,e2⟩:=xu e
   obtain ⟨hs,h1,h2⟩:=ma e1
   obtain ⟨_,b,_⟩:=lQ hs e2
   obtain ⟨T,hT⟩:∃ T,dY l t d h=T+1:=⟨dY l t d h-1,by omega⟩
   have hx:=Vv (n+4) l k t d h H hs e2 ⟨h1,h2⟩ T hT
   rw[hT,Nat.add_sub_cancel]
   refine aD (n:=n+11) Try.func27 rfl rfl rfl (UT (n+11) l k t d (cQ t l) h T (T+1) (fP l k t d h T) (gP l k t d h T) H) (aO _ (n+11) (bp (bp (aF _) (fun H=>OR n l k t d H h e)) (fun H=>Sy (n+10) 0 l k t d (cQ t l) h H))) (af _ _) (xQ (ag _ _) (fun f ps a b _ hm x hx2=>by
    rw[UM] at hm
    simp only[List.mem_cons,Prod.mk.injEq,List.not_mem_nil,or_false] at hm
    obtain ⟨rfl,rfl,rfl,rfl⟩:=hm
    rw[← Tr.ab hx2];exact hx)) ?_
   show Tr.all _ _
   simp only[bH,Nat.zero_add]
   generalize fP l k t d h T=A at *
   generalize gP l k t d h T=B at *
   exact wF
 · rw[if_neg e]
   refine aD (n:=n+11) Try.func27 rfl rfl rfl (Q4 (n+11) l k t d h (fE l k t d h) H) (aO _ (n+11) (bp (aF _) (fun H=>OQ n l k t d H h e))) (af _ _) (xQ (ag _ _) (fun f ps a b _ hm x hx2=>(Tr.ae hx2).elim)) ?_
   generalize fE l k t d h=N at *
   exact wF
end
end Go.Eng
end
section
namespace Go.Eng
open Go.Proofs
noncomputable def lu (l:Nat) (t:Nat→Int) (k:Nat) (d z:Nat→Int):aT:=⟨false,[DB l t k d,(0,.row (.M [.arr .i64 z l]))]⟩
noncomputable def DU (l m:Nat) (f:Nat→Nat→Int) (g:Nat→Nat) (c i:Int):aq:=[(1,dA m f g),(2,.ptr 0 0 0 0),(6,.slc 0 1 0 0 1 l (some l)),(7,.int .i64 c),(8,.int .i64 i)]
noncomputable def rb (l m:Nat) (f:Nat→Nat→Int) (g:Nat→Nat) (c i j:Int):aq:=[(1,dA m f g),(2,.ptr 0 0 0 0),(6,.slc 0 1 0 0 1 l (some l)),(7,.int .i64 c),(8,.int .i64 i),(9,.int .i64 j)]
theorem NJ (n l k:Nat) (t d z:Nat→Int) (m:Nat) (f:Nat→Nat→Int) (g:Nat→Nat) (c i j x:Int) (b:Bool) (H:aa):aJ (bn n 47 64) (il (tX aE 59 [b5 l t k d,.int .i64 (f (au 0 i 1) (au 0 j 1))] (.bool b)) n 0) aG aH (part Try.f47 [1,1,1,1,0,1,0,0,1,0,0,1,0,0]) (hints (rb l m f g c i j)) (lu l t k d z::H) =
 (fun (Z0:Row)=>((fun (Z1:aT)=>((fun (Z2:Nat×AV×Option Nat)=>Tr.req (cE i m) (Tr.req (cr (au 0 i 1) m) (Tr.ite (bK j (Int.ofNat (g (au 0 i 1)))) (Tr.req (cE i m) (Tr.req (cr (au 0 i 1) m) (Tr.req (cE j (g (au 0 i 1))) (Tr.req (cr (au 0 j 1) (g (au 0 i 1))) (Tr.reqP ([AV.agg Z0,AV.int .i64 (f (au 0 i 1) (au 0 j 1))]=[AV.agg Z0,AV.int .i64 (f (au 0 i 1) (au 0 j 1))]) (Tr.ite (aP b) (Tr.ok (Ex.ret,[(4,AV.nils,none),(5,AV.int .i64 (Int.ofNat 15),some 1)],Z1::H)) (Tr.req (cE (f (au 0 i 1) (au 0 j 1)) l) (Tr.req (b9 0 0) (Tr.req (cr (au 0 (f (au 0 i 1) (au 0 j 1)) 1) l) (Tr.ite (aP (b7 (z (au 0 (f (au 0 i 1) (au 0 j 1)) 1)) (Int.ofNat 0))) (Tr.ok (Ex.ret,[(4,AV.nils,none),(5,AV.int .i64 (Int.ofNat 15),some 1)],Z1::H)) (Tr.req (cE (f (au 0 i 1) (au 0 j 1)) l) (Tr.req (b9 0 0) (Tr.req (cr (au 0 (f (au 0 i 1) (au 0 j 1)) 1) l) (Tr.ok (Ex.normal,[Z2,(2,AV.ptr 0 0 0 0,none),(6,AV.slc 0 1 0 0 1 l (some l),none),(7,AV.int .i64 (bA .i64 c (Int.ofNat 1)),none),(8,AV.int .i64 i,none),(9,AV.int .i64 (bA .i64 j (Int.ofNat 1)),none)],{ lock:=false,bs:=[(0,ai.row Z0),(0,ai.row (Row.M [ah.arr .i64 (fX z (au 0 (f (au 0 i 1) (au 0 j 1)) 1) (bA .i64 i (Int.ofNat 1))) l]))] } :: H))))))))))))))) (Tr.ok (Ex.exit 2,[Z2,(2,AV.ptr 0 0 0 0,none),(6,AV.slc 0 1 0 0 1 l (some l),none),(7,AV.int .i64 c,none),(8,AV.int .i64 i,none),(9,AV.int .i64 j,none),(30,AV.bool false,some 1)],Z1::H))))) (1,AV.slcT none (Row.F (fun j=>AV.slcT none (Row.M [ah.arr .i64 (f j) (g j)]) 1 (g j) false) m) 1 m false,none))) { lock:=false,bs:=[(0,ai.row Z0),(0,ai.row (Row.M [ah.arr .i64 z l]))] })) (Row.G [AV.slcT none (Row.M [ah.arr .i64 t l]) 1 l false,AV.slcT none (Row.M [ah.arr .i64 d k]) 1 k false]):=by kernel_rfl
theorem QK (n l k:Nat) (t d z:Nat→Int) (m:Nat) (f:Nat→Nat→Int) (g:Nat→Nat) (c i:Int) (H:aa):aJ (bn n 47 64) (il aE n 0) (bS aG 2 [] [] .bad) aH (part Try.f47 [1,1,1,1,0,1,0,0]) (hints (DU l m f g c i)) (lu l t k d z::H) =
 (fun (Z0:aT)=>((fun (Z1:Row)=>Tr.ite (bK i (Int.ofNat m)) (Tr.reqP ([(1,AV.slcT none Z1 1 m false),(2,AV.ptr 0 0 0 0),(6,AV.slc 0 1 0 0 1 l (some l)),(7,AV.int .i64 c),(8,AV.int .i64 i),(9,AV.int .i64 (Int.ofNat 0))]=[]∧Z0::H=[]) Tr.bad) (Tr.ok (Ex.exit 0,[(1,AV.slcT none Z1 1 m false,none),(2,AV.ptr 0 0 0 0,none),(6,AV.slc 0 1 0 0 1 l (some l),none),(7,AV.int .i64 c,none),(8,AV.int .i64 i,none),(21,AV.bool false,some 1)],Z0::H))) (Row.F (fun j=>AV.slcT none (Row.M [ah.arr .i64 (f j) (g j)]) 1 (g j) false) m))) { lock:=false,bs:=[(0,ai.row (Row.G [AV.slcT none (Row.M [ah.arr .i64 t l]) 1 l false,AV.slcT none (Row.M [ah.arr .i64 d k]) 1 k false])),(0,ai.row (Row.M [ah.arr .i64 z l]))] }:=by kernel_rfl
theorem U0 (n l k:Nat) (t d:Nat→Int) (m:Nat) (f:Nat→Nat→Int) (g:Nat→Nat) (H:aa):aX Try.prog (cd n) 100000 47 Try.f47 (KtL.kt 47) (il aE n 0) (bS aG 0 [] [] .bad) aH [(b5 l t k d,none),(dA m f g,none)] H =
 Tr.ite (bK (Int.ofNat 40) (Int.ofNat m)) (Tr.ok ((AV.tup [AV.nils,AV.int .i64 (Int.ofNat 6)],none),H)) (Tr.req (D7 (Int.ofNat l) (Int.ofNat l) 8) (Tr.reqP ([(1,AV.slcT none (Row.F (fun j=>AV.slcT none (Row.M [ah.arr .i64 (f j) (g j)]) 1 (g j) false) m) 1 m false),(2,AV.ptr 0 0 0 0),(6,AV.slc 0 1 0 0 1 (dr (Int.ofNat l)) (some (dr (Int.ofNat l)))),(7,AV.int .i64 (Int.ofNat 0)),(8,AV.int .i64 (Int.ofNat 0))]=[]∧{ lock:=false,bs:=[(0,ai.row (Row.G [AV.slcT none (Row.M [ah.arr .i64 t l]) 1 l false,AV.slcT none (Row.M [ah.arr .i64 d k]) 1 k false])),(0,ai.row (Row.M [ah.arr .i64 (fun x=>Int.ofNat 0) (dr (Int.ofNat l))]))] } :: H=[]) Tr.bad)):=by kernel_rfl
def ny (l:Nat) (z:Nat→Int) (c:Int):Bool:=!(decide (0≤c) && decide (c<l)) || decide (z c.toNat≠0)
def fA (o:Nat→Int) (T:Int) (z:Nat→Int):Nat→Nat→Int
 | 0=>z
 | j+1=>uI (fA o T z j) (o j).toNat T
section
variable (n l k:Nat) (t d z:Nat→Int) (m:Nat) (f:Nat→Nat→Int) (g:Nat→Nat) (H:aa)
theorem PT (C i:Nat) (hi:i<m) (hm:m≤40) (hg:g i<1000) (hC:C<100000):exec (bn (n+1) 47 64) (.block 2 (.loop (part Try.f47 [1,1,1,1,0,1,0,0,1,0,0,1,0,0]))) (rb l m f g (C:Nat) (i:Nat) ((0:Nat):Int)) (lu l t k d z::H)=some (cond (bV (fun j=>ny l (fA (f i) ((i+1:Nat):Int) z j) (f i j)) (g i)) (.ret,[(4,.nils),(5,.int .i64 15)],lu l t k d (fA (f i) ((i+1:Nat):Int) z (fN (fun j=>ny l (fA (f i) ((i+1:Nat):Int) z j) (f i j)) (g i) 0))::H) (.normal,rb l m f g ((C+g i:Nat):Int) (i:Nat) (Int.ofNat (g i))++[(30,.bool false)],lu l t k d (fA (f i) ((i+1:Nat):Int) z (g i))::H)):=by
 refine iv (n:=n+1) (f:=47) (nt:=64) (c:=part Try.f47 [1,1,1,1,0,1,0,0,1,0,0,1,0,0]) 2 (fun j=>rb l m f g ((C+j:Nat):Int) (i:Nat) (j:Nat)) (fun j=>lu l t k d (fA (f i) ((i+1:Nat):Int) z j)::H) (g i) (fun j=>ny l (fA (f i) ((i+1:Nat):Int) z j) (f i j)) (fun j=>([(4,.nils),(5,.int .i64 15)],lu l t k d (fA (f i) ((i+1:Nat):Int) z j)::H)) _ (by omega) (fun j hj=>?_) ?_
 · refine aB (NJ (n+1) l k t d (fA (f i) ((i+1:Nat):Int) z j) m f g ((C+j:Nat):Int) (i:Nat) (j:Nat) 0 (decide (0≤f (au 0 ((i:Nat):Int) 1) (au 0 ((j:Nat):Int) 1)) && decide (f (au 0 ((i:Nat):Int) 1) (au 0 ((j:Nat):Int) 1)<l)) H) (aO _ (n+1) (bp (aF _) (fun H=>RU n l k t d H _))) (af _ _) (ag _ _) ?_
   show Tr.all _ (fun r=>if ny l (fA (f i) ((i+1:Nat):Int) z j) (f i j)=true then _ else _∧tidy _ _ _=(rb l m f g ((C+(j+1):Nat):Int) (i:Nat) ((j+1:Nat):Int),lu l t k d (uI (fA (f i) ((i+1:Nat):Int) z j) (f i j).toNat ((i+1:Nat):Int))::H))
   rw[c7 (j:=j) (by omega),c7 (j:=i) (by omega),c7 (j:=C+j) (by omega)]
   simp only[iS]
   generalize fA (f i) ((i+1:Nat):Int) z j=Z at *
   by_cases hr:0≤f i j∧f i j<l
   · obtain ⟨c,hc⟩:∃ c:Nat,f i j=c:=⟨(f i j).toNat,by omega⟩
     rw[hc] at hr ⊢
     have e1:(decide (0≤(c:Int)) && decide ((c:Int)<l))=true:=by rw[decide_eq_true hr.1,decide_eq_true hr.2];rfl
     rw[Int.toNat_natCast]
     simp only[iS,e1,uy]
     by_cases h0:Z c=0
     · have eb:ny l Z (c:Int)=false:=by unfold ny;rw[e1,Int.toNat_natCast,decide_eq_false (by simpa using h0)];rfl
       rw[eb]
       simp only[Bool.false_eq_true,if_false]
       generalize uI Z c ((i+1:Nat):Int)=Z2 at *
       exact wF
     · have eb:ny l Z (c:Int)=true:=by unfold ny;rw[e1,Int.toNat_natCast,decide_eq_true h0];rfl
       rw[eb]
       simp only[if_true]
       exact wF
   · have e1:(decide (0≤f i j) && decide (f i j<l))=false:=by
      cases hx:(decide (0≤f i j) && decide (f i j<l)) with
      | false=>rfl
      | true =>
        simp only[Bool.and_eq_true,decide_eq_true_eq] at hx
        exact absurd hx hr
     have eb:ny l Z (f i j)=true:=by unfold ny;rw[e1];rfl
     rw[e1,eb]
     simp only[if_true]
     exact wF
 · have hz:∃ Z,Z=fA (f i) ((i+1:Nat):Int) z (g i):=⟨_,rfl⟩
   obtain ⟨Z,hZ⟩:=hz
   have hG:∃ q,q=g i:=⟨_,rfl⟩
   obtain ⟨q,hq⟩:=hG
   obtain ⟨x,hx,rfl⟩:=aB (Q:=fun x=>x=(.exit 2,rb l m f g ((C+q:Nat):Int) (i:Nat) (Int.ofNat q)++[(30,.bool false)],lu l t k d Z::H)) (NJ (n+1) l k t d Z m f g ((C+q:Nat):Int) (i:Nat) (Int.ofNat q) 0 (decide (0≤f (au 0 ((i:Nat):Int) 1) (au 0 (Int.ofNat q) 1)) && decide (f (au 0 ((i:Nat):Int) 1) (au 0 (Int.ofNat q) 1)<l)) H) (aO _ (n+1) (bp (aF _) (fun H=>RU n l k t d H _))) (af _ _) (ag _ _) (by
    have e1:bK (Int.ofNat q) (Int.ofNat (g i))=false:=by rw[cY,hq];simp
    simp only[iS,e1]
    exact wF
    )
   rw[← hq] at hZ ⊢
   rw[← hZ]
   exact hx
end
end Go.Eng
end
section
namespace Go.Eng
open Go.Proofs
theorem LV:∀ b,(2,b) ∈ aI (part Try.f47 [1,1,1,1,0,1,0,0])→b=.loop (part Try.f47 [1,1,1,1,0,1,0,0,1,0,0,1,0,0]):=ep (by kernel_rfl)
theorem QL (n l k:Nat) (t d z z1 z2:Nat→Int) (m:Nat) (f:Nat→Nat→Int) (g:Nat→Nat) (c i c2 q:Int) (b:Bool) (H:aa):aJ (bn n 47 64) (il aE n 0) (bS aG 2 (rb l m f g c i 0) (lu l t k d z::H) (.ite b (.ok (.ret,hints [(4,.nils),(5,.int .i64 15)],lu l t k d z1::H)) (.ok (.normal,hints (rb l m f g c2 i q++[(30,.bool false)]),lu l t k d z2::H)))) aH (part Try.f47 [1,1,1,1,0,1,0,0]) (hints (DU l m f g c i)) (lu l t k d z::H) =
 (fun (Z0:Nat×ai)=>((fun (Z1:Row)=>((fun (Z2:aq)=>((fun (Z3:aT)=>Tr.ite (bK i (Int.ofNat m)) (Tr.reqP (Z2=Z2∧Z3::H=Z3::H) (Tr.ite b (Tr.ok (Ex.ret,[(4,AV.nils,none),(5,AV.int .i64 (Int.ofNat 15),none)],{ lock:=false,bs:=[Z0,(0,ai.row (Row.M [ah.arr .i64 z1 l]))] } :: H)) (Tr.ok (Ex.normal,[(1,AV.slcT none Z1 1 m false,none),(2,AV.ptr 0 0 0 0,none),(6,AV.slc 0 1 0 0 1 l (some l),none),(7,AV.int .i64 c2,none),(8,AV.int .i64 (bA .i64 i (Int.ofNat 1)),none)],{ lock:=false,bs:=[Z0,(0,ai.row (Row.M [ah.arr .i64 z2 l]))] } :: H)))) (Tr.ok (Ex.exit 0,[(1,AV.slcT none Z1 1 m false,none),(2,AV.ptr 0 0 0 0,none),(6,AV.slc 0 1 0 0 1 l (some l),none),(7,AV.int .i64 c,none),(8,AV.int .i64 i,none),(21,AV.bool false,some 1)],Z3::H))) { lock:=false,bs:=[Z0,(0,ai.row (Row.M [ah.arr .i64 z l]))] })) [(1,AV.slcT none Z1 1 m false),(2,AV.ptr 0 0 0 0),(6,AV.slc 0 1 0 0 1 l (some l)),(7,AV.int .i64 c),(8,AV.int .i64 i),(9,AV.int .i64 (Int.ofNat 0))])) (Row.F (fun j=>AV.slcT none (Row.M [ah.arr .i64 (f j) (g j)]) 1 (g j) false) m))) (0,ai.row (Row.G [AV.slcT none (Row.M [ah.arr .i64 t l]) 1 l false,AV.slcT none (Row.M [ah.arr .i64 d k]) 1 k false])):=by kernel_rfl
def cg (f:Nat→Nat→Int) (g:Nat→Nat):Nat→Nat→Int
 | 0=>fun _=>Int.ofNat 0
 | i+1=>fA (f i) ((i+1:Nat):Int) (cg f g i) (g i)
def mU (l:Nat) (f:Nat→Nat→Int) (g:Nat→Nat) (i:Nat):Bool:=bV (fun j=>ny l (fA (f i) ((i+1:Nat):Int) (cg f g i) j) (f i j)) (g i)
theorem G4 {g:Nat→Nat} {m:Nat} (hg:∀ i,i<m→g i<1000):∀ i,i≤m→bw g i≤i*1000
 | 0,_=>Nat.le_refl _
 | i+1,hi=>by
   have:=G4 hg i (by omega)
   have:=hg i (by omega)
   show bw g i+g i≤(i+1)*1000
   omega
section
variable (n l k:Nat) (t d:Nat→Int) (m:Nat) (f:Nat→Nat→Int) (g:Nat→Nat) (H:aa)
theorem PU (hm:m≤40) (hg:∀ i,i<m→g i<1000):∃ X:Nat→Nat→Int,exec (bn (n+1) 47 64) (.block 0 (.loop (part Try.f47 [1,1,1,1,0,1,0,0]))) (DU l m f g ((bw g 0:Nat):Int) ((0:Nat):Int)) (lu l t k d (cg f g 0)::H)=some (cond (bV (mU l f g) m) (.ret,[(4,.nils),(5,.int .i64 15)],lu l t k d (X (fN (mU l f g) m 0))::H) (.normal,DU l m f g ((bw g m:Nat):Int) (Int.ofNat m)++[(21,.bool false)],lu l t k d (cg f g m)::H)):=by
 refine ⟨fun i=>fA (f i) ((i+1:Nat):Int) (cg f g i) (fN (fun j=>ny l (fA (f i) ((i+1:Nat):Int) (cg f g i) j) (f i j)) (g i) 0),?_⟩
 refine iv (n:=n+1) (f:=47) (nt:=64) (c:=part Try.f47 [1,1,1,1,0,1,0,0]) 0 (fun i=>DU l m f g ((bw g i:Nat):Int) (i:Nat)) (fun i=>lu l t k d (cg f g i)::H) m (mU l f g) (fun i=>([(4,.nils),(5,.int .i64 15)],lu l t k d (fA (f i) ((i+1:Nat):Int) (cg f g i) (fN (fun j=>ny l (fA (f i) ((i+1:Nat):Int) (cg f g i) j) (f i j)) (g i) 0))::H)) _ (by omega) (fun i hi=>?_) ?_
 · have ht:=G4 hg i (by omega)
   have hx:=PT n l k t d (cg f g i) m f g H (bw g i) i hi hm (hg i hi) (by omega)
   refine aB (QL (n+1) l k t d (cg f g i) (fA (f i) ((i+1:Nat):Int) (cg f g i) (fN (fun j=>ny l (fA (f i) ((i+1:Nat):Int) (cg f g i) j) (f i j)) (g i) 0)) (cg f g (i+1)) m f g ((bw g i:Nat):Int) (i:Nat) ((bw g i+g i:Nat):Int) (Int.ofNat (g i)) (mU l f g i) H) (ao _) (aA (af _ _) LV (fun x hy=>dk hy hx)) (ag _ _) ?_
   show Tr.all _ (fun r=>if mU l f g i=true then _ else _∧tidy _ _ _=(DU l m f g ((bw g i+g i:Nat):Int) ((i+1:Nat):Int),lu l t k d (cg f g (i+1))::H))
   rw[c7 (j:=i) (by omega)]
   clear hx
   generalize mU l f g i=B at *
   generalize cg f g (i+1)=Z2 at *
   generalize bw g i+g i=C2 at *
   generalize fA (f i) ((i+1:Nat):Int) (cg f g i) (fN (fun j=>ny l (fA (f i) ((i+1:Nat):Int) (cg f g i) j) (f i j)) (g i) 0)=Z1 at *
   cases B with
   | true =>
     simp only[if_true]
     exact wF
   | false =>
     simp only[Bool.false_eq_true,if_false]
     exact wF
 · exact cO (QK (n+1) l k t d (cg f g m) m f g ((bw g m:Nat):Int) (Int.ofNat m) H) (ao _) (aA (af _ _) LV (fun x hx=>(Tr.ae hx).elim)) (ag _ _) (by first | (simp (disch:=omega) only[nV,nW];done) | (simp (disch:=omega) only[nV,nW];omega))
end
end Go.Eng
end
section
namespace Go.Eng
open Go.Proofs
noncomputable def tr (l:Nat) (t:Nat→Int) (k:Nat) (d z:Nat→Int):aT:=⟨false,[DB l t k d,(0,.row (.M [.arr .i64 z (dr (Int.ofNat l))]))]⟩
noncomputable def yL (l m:Nat) (f:Nat→Nat→Int) (g:Nat→Nat) (c i:Int):aq:=[(1,dA m f g),(2,.ptr 0 0 0 0),(6,.slc 0 1 0 0 1 (dr (Int.ofNat l)) (some (dr (Int.ofNat l)))),(7,.int .i64 c),(8,.int .i64 i)]
theorem Q9 (n l k:Nat) (t d z1 z2:Nat→Int) (m:Nat) (f:Nat→Nat→Int) (g:Nat→Nat) (c q:Int) (b:Bool) (H:aa):aX Try.prog (cd n) 100000 47 Try.f47 (KtL.kt 47) (il aE n 0) (bS aG 0 (yL l m f g 0 0) (tr l t k d (fun _=>Int.ofNat 0)::H) (.ite b (.ok (.ret,hints [(4,.nils),(5,.int .i64 15)],tr l t k d z1::H)) (.ok (.normal,hints (yL l m f g c q++[(21,.bool false)]),tr l t k d z2::H)))) aH [(b5 l t k d,none),(dA m f g,none)] H =
 (fun (Z0:aq)=>((fun (Z1:aT)=>Tr.ite (bK (Int.ofNat 40) (Int.ofNat m)) (Tr.ok ((AV.tup [AV.nils,AV.int .i64 (Int.ofNat 6)],none),H)) (Tr.req (D7 (Int.ofNat l) (Int.ofNat l) 8) (Tr.reqP (Z0=Z0∧Z1::H=Z1::H) (Tr.ite b (Tr.ok ((AV.tup [AV.nils,AV.int .i64 (Int.ofNat 15)],none),H)) (Tr.ite (aP (b7 c (Int.ofNat l))) (Tr.ok ((AV.tup [AV.nils,AV.int .i64 (Int.ofNat 15)],none),H)) (Tr.req (b9 0 0) (Tr.req (gq 0 (dr (Int.ofNat l)) 0 (dr (Int.ofNat l))) (Tr.ok ((AV.tup [AV.slcT none (Row.M [ah.arr .i64 (dD z2 0) (dr (Int.ofNat l))]) 1 (dr (Int.ofNat l)) (b9 (dr (Int.ofNat l)) (dr (Int.ofNat l))),AV.int .i64 (Int.ofNat 0)],none),H))))))))) { lock:=false,bs:=[(0,ai.row (Row.G [AV.slcT none (Row.M [ah.arr .i64 t l]) 1 l false,AV.slcT none (Row.M [ah.arr .i64 d k]) 1 k false])),(0,ai.row (Row.M [ah.arr .i64 (fun x=>Int.ofNat 0) (dr (Int.ofNat l))]))] })) [(1,AV.slcT none (Row.F (fun j=>AV.slcT none (Row.M [ah.arr .i64 (f j) (g j)]) 1 (g j) false) m) 1 m false),(2,AV.ptr 0 0 0 0),(6,AV.slc 0 1 0 0 1 (dr (Int.ofNat l)) (some (dr (Int.ofNat l)))),(7,AV.int .i64 (Int.ofNat 0)),(8,AV.int .i64 (Int.ofNat 0))]:=by kernel_rfl
theorem RK:∀ b,(0,b) ∈ aI (bj Try.f47)→b=.loop (part Try.f47 [1,1,1,1,0,1,0,0]):=ep (by kernel_rfl)
noncomputable def Oa (l m:Nat) (f:Nat→Nat→Int) (g:Nat→Nat):AV:=if 40<m then .tup [.nils,.int .i64 6] else if bV (mU l f g) m=true∨bw g m≠l then .tup [.nils,.int .i64 15] else .tup [b6 l (cg f g m) true,.int .i64 0]
theorem RR (n l k:Nat) (t d:Nat→Int) (m:Nat) (f:Nat→Nat→Int) (g:Nat→Nat) (H:aa) (hl:l≤1000) (hg:∀ i,i<m→g i<1000):cd (n+2) (.fn 47) [b5 l t k d,dA m f g] H=some (Oa l m f g,H):=by
 unfold Oa
 by_cases c:40<m
 · rw[if_pos c]
   refine aD (n:=n+1) Try.func47 rfl rfl rfl (U0 (n+1) l k t d m f g H) (ao _) (aA (af _ _) RK (fun x hx=>(Tr.ae hx).elim)) (ag _ _) ?_
   exact wF
 · rw[if_neg c]
   obtain ⟨X,hx⟩:=PU n l k t d m f g H (by omega) hg
   have hx':exec (bn (n+1) 47 64) (.block 0 (.loop (part Try.f47 [1,1,1,1,0,1,0,0]))) (yL l m f g 0 0) (tr l t k d (fun _=>Int.ofNat 0)::H)=some (cond (bV (mU l f g) m) (.ret,[(4,.nils),(5,.int .i64 15)],tr l t k d (X (fN (mU l f g) m 0))::H) (.normal,yL l m f g ((bw g m:Nat):Int) (Int.ofNat m)++[(21,.bool false)],tr l t k d (cg f g m)::H)):=by
    unfold yL tr
    rw[pP]
    exact hx
   refine aD (n:=n+1) Try.func47 rfl rfl rfl (Q9 (n+1) l k t d (X (fN (mU l f g) m 0)) (cg f g m) m f g ((bw g m:Nat):Int) (Int.ofNat m) (bV (mU l f g) m) H) (ao _) (aA (af _ _) RK (fun x hy=>dk hy hx')) (ag _ _) ?_
   simp only[pP,cT]
   have eq:b9 l l=true:=by rw[gy];simp
   clear hx hx'
   generalize X (fN (mU l f g) m 0)=X at *
   generalize bV (mU l f g) m=B at *
   generalize cg f g m=Z at *
   generalize bw g m=N at *
   cases B with
   | true =>
     rw[if_pos (.inl rfl)]
     exact wF
   | false =>
     by_cases e:N=l
     · subst e
       rw[if_neg (by simp)]
       simp only[eq]
       exact wF
     · rw[if_pos (.inr e)]
       exact wF
end Go.Eng
end
