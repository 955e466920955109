/- Lay: Plan: its rounds. -/
import Derived.Test.YtoomemfhcbajoaaV3Lp10x7
set_option linter.unusedVariables false
set_option linter.unusedSimpArgs false
set_option maxRecDepth 100000
section
namespace Go.Eng
open Go.Proofs
noncomputable def BJ (m:Nat) (o:Nat→Int):aW:=⟨false,[(0,.row (.M [.arr .i64 (dR (fun _=>Int.ofNat 0) 0 o (qk m (dg (Int.ofNat m)))) (dg (Int.ofNat m))]))]⟩
noncomputable def BK (m:Nat) (y:Nat→Int):aW:=⟨false,[(0,.row (.M [.arr .i64 y (dg (Int.ofNat m))]))]⟩
noncomputable def Bo (l:Nat) (t:Nat→Int) (k:Nat) (d e:Nat→Int) (h:Int) (m:Nat) (o:Nat→Int):ao:=[(8,.ptr 2 1 0 0),(22,.fn (.func 85) [] [.ptrT (some 2) (.G [dv 0 l t k d e]) 0,.ptrT none (.I .i64 [h]) 0]),(23,bP m o false)]
noncomputable def uT (m:Nat) (o:Nat→Int):ao:=[(8,.ptr 2 1 0 0),(9,bP m o false)]
theorem LX (n l k:Nat) (t d e:Nat→Int) (h:Int) (m:Nat) (o:Nat→Int) (L:gQ) (L1:aW) (H:aa):aQ (vT n 27 37 2 2) (il aH n 0) aN aO (part Try.f27 [1,1,1,1,0,1,0,0]) (hints (Bo l t k d e h m o)) (aB::L1::wv l t k d L::H) =
 Tr.ok (Ex.normal,[(8,AV.ptr 2 1 0 0,none),(9,AV.slcT none (Row.M [ah.arr .i64 o m]) 1 m false,none)],aB::L1::{ lock:=false,bs:=[(0,ak.row (Row.G [AV.slcT none (Row.M [ah.arr .i64 t l]) 1 l false,AV.slcT none (Row.M [ah.arr .i64 d k]) 1 k false])),(0,ak.row (Row.G [AV.nils])),(0,ak.loop L)] } :: H):=by kernel_rfl
theorem LV (n l k:Nat) (t d:Nat→Int) (m:Nat) (o y:Nat→Int) (L:gQ) (L1:aW) (H:aa):aQ (vT n 27 37 2 2) (il (Ag aH 63 [.slc 0 0 0 0 1 (dg (Int.ofNat m)) (some (dg (Int.ofNat m)))] (BJ m o::L1::wv l t k d L::H) (.ok (.tup [],BK m y::L1::wv l t k d L::H))) n 0) aN aO (part Try.f27 [1,1,1,1,0,1,0,1]) (hints (uT m o)) (aB::L1::wv l t k d L::H) =
 (fun (Z0:Nat×ak)=>((fun (Z1:aW)=>Tr.req (De (Int.ofNat m) (Int.ofNat m) 8) (Tr.req (ik (qk m (dg (Int.ofNat m))) m) (Tr.req (ik (bY 0 (qk m (dg (Int.ofNat m)))) m) (Tr.req (cu 0 0) (Tr.req (fW 0 (qk m (dg (Int.ofNat m))) 0 (dg (Int.ofNat m))) (Tr.reqP ([AV.slc 0 0 0 0 1 (dg (Int.ofNat m)) (some (dg (Int.ofNat m)))]=[AV.slc 0 0 0 0 1 (dg (Int.ofNat m)) (some (dg (Int.ofNat m)))]∧Z1::L1::{ lock:=false,bs:=[Z0,(0,ak.row (Row.G [AV.nils])),(0,ak.loop L)] } :: H=Z1::L1::{ lock:=false,bs:=[Z0,(0,ak.row (Row.G [AV.nils])),(0,ak.loop L)] } :: H) (Tr.req (cu 0 0) (Tr.req (fW 0 (dg (Int.ofNat m)) 0 (dg (Int.ofNat m))) (Tr.req (gx 0 1 24) (Tr.req (cu 0 0) (Tr.req (ik 1 1) (Tr.ok (Ex.normal,[],{ lock:=false,bs:=[(0,ak.dead),(0,ak.row (Row.G [AV.slcT none (Row.M [ah.arr .i64 (dE y 0) (dg (Int.ofNat m))]) 1 (dg (Int.ofNat m)) (cu (dg (Int.ofNat m)) (dg (Int.ofNat m)))])),(0,ak.dead)] } :: L1::{ lock:=false,bs:=[Z0,(0,ak.row (Row.G [AV.slc 0 3 0 0 1 1 none])),(0,ak.loop L),(0,ak.row (Row.F (fun x=>AV.slcT none (Row.M [ah.arr .i64 (dE y 0) (dg (Int.ofNat m))]) 1 (dg (Int.ofNat m)) false) 1))] } :: H))))))))))))) { lock:=false,bs:=[(0,ak.row (Row.M [ah.arr .i64 (dR (fun x=>Int.ofNat 0) 0 o (qk m (dg (Int.ofNat m)))) (dg (Int.ofNat m))]))] })) (0,ak.row (Row.G [AV.slcT none (Row.M [ah.arr .i64 t l]) 1 l false,AV.slcT none (Row.M [ah.arr .i64 d k]) 1 k false])):=by kernel_rfl
theorem LY (n l k:Nat) (t d e:Nat→Int) (h:Int) (m:Nat) (o:Nat→Int) (L:gQ) (v q:Nat) (f:Nat→Nat→Int) (g:Nat→Nat) (L1:aW) (H:aa):aQ (vT n 27 37 2 2) (il aH n 0) aN aO (part Try.f27 [1,1,1,1,0,1,0,0]) (hints (Bo l t k d e h m o)) (aB::L1::jq l t k d L v q f g::H) =
 Tr.ok (Ex.normal,[(8,AV.ptr 2 1 0 0,none),(9,AV.slcT none (Row.M [ah.arr .i64 o m]) 1 m false,none)],aB::L1::{ lock:=false,bs:=[(0,ak.row (Row.G [AV.slcT none (Row.M [ah.arr .i64 t l]) 1 l false,AV.slcT none (Row.M [ah.arr .i64 d k]) 1 k false])),(0,ak.row (Row.G [AV.slc 0 3 v 0 1 q none])),(0,ak.loop L),(v,ak.row (Row.F (fun j=>AV.slcT none (Row.M [ah.arr .i64 (f j) (g j)]) 1 (g j) false) q))] } :: H):=by kernel_rfl
theorem LW (n l k:Nat) (t d:Nat→Int) (m:Nat) (o y:Nat→Int) (L:gQ) (v q:Nat) (f:Nat→Nat→Int) (g:Nat→Nat) (L1:aW) (H:aa):aQ (vT n 27 37 2 2) (il (Ag aH 63 [.slc 0 0 0 0 1 (dg (Int.ofNat m)) (some (dg (Int.ofNat m)))] (BJ m o::L1::jq l t k d L v q f g::H) (.ok (.tup [],BK m y::L1::jq l t k d L v q f g::H))) n 0) aN aO (part Try.f27 [1,1,1,1,0,1,0,1]) (hints (uT m o)) (aB::L1::jq l t k d L v q f g::H) =
 (fun (Z0:aW)=>((fun (Z1:aW)=>Tr.req (De (Int.ofNat m) (Int.ofNat m) 8) (Tr.req (ik (qk m (dg (Int.ofNat m))) m) (Tr.req (ik (bY 0 (qk m (dg (Int.ofNat m)))) m) (Tr.req (cu 0 0) (Tr.req (fW 0 (qk m (dg (Int.ofNat m))) 0 (dg (Int.ofNat m))) (Tr.reqP ([AV.slc 0 0 0 0 1 (dg (Int.ofNat m)) (some (dg (Int.ofNat m)))]=[AV.slc 0 0 0 0 1 (dg (Int.ofNat m)) (some (dg (Int.ofNat m)))]∧Z1::L1::Z0::H=Z1::L1::Z0::H) (Tr.req (cu 0 0) (Tr.req (fW 0 (dg (Int.ofNat m)) 0 (dg (Int.ofNat m))) (Tr.req (gx q 1 24) (Tr.req (cu 0 0) (Tr.req (ik 1 1) (Tr.req (cu v v) (Tr.req (cu (bY 0 q) q) (Tr.reqP (DV (fun j=>AV.slcT none (Row.M [ah.arr .i64 (f (bY 0 j)) (g (bY 0 j))]) 1 (g (bY 0 j)) false) IntKind.i64 1 false) (Tr.ok (Ex.normal,[],{ lock:=false,bs:=[(0,ak.dead),(0,ak.row (Row.G [AV.slcT none (Row.M [ah.arr .i64 (dE y 0) (dg (Int.ofNat m))]) 1 (dg (Int.ofNat m)) (cu (dg (Int.ofNat m)) (dg (Int.ofNat m)))]))] } :: L1::{ lock:=false,bs:=[(0,ak.row (Row.G [AV.slcT none (Row.M [ah.arr .i64 t l]) 1 l false,AV.slcT none (Row.M [ah.arr .i64 d k]) 1 k false])),(0,ak.row (Row.G [AV.slc 0 3 (Nat.succ v) 0 1 (bY q 1) none])),(0,ak.loop L),(Nat.succ v,ak.row (Row.F (fun j=>AV.slcT none (Row.M [ah.arr .i64 (Hv (cJ j q) (f (bY 0 j)) (dE y 0)) (Dz (cJ j q) (g (bY 0 j)) (dg (Int.ofNat m)))]) 1 (Dz (cJ j q) (g (bY 0 j)) (dg (Int.ofNat m))) false) (bY q 1)))] } :: H)))))))))))))))) { lock:=false,bs:=[(0,ak.row (Row.M [ah.arr .i64 (dR (fun x=>Int.ofNat 0) 0 o (qk m (dg (Int.ofNat m)))) (dg (Int.ofNat m))]))] })) { lock:=false,bs:=[(0,ak.row (Row.G [AV.slcT none (Row.M [ah.arr .i64 t l]) 1 l false,AV.slcT none (Row.M [ah.arr .i64 d k]) 1 k false])),(0,ak.row (Row.G [AV.slc 0 3 v 0 1 q none])),(0,ak.loop L),(v,ak.row (Row.F (fun j=>AV.slcT none (Row.M [ah.arr .i64 (f j) (g j)]) 1 (g j) false) q))] }:=by kernel_rfl
noncomputable def yr:Code:=part Try.f27 [1,1,1,1,0,1,0,0]
noncomputable def yt:Code:=part Try.f27 [1,1,1,1,0,1,0,1]
noncomputable def dF (l:Nat) (t:Nat→Int) (k:Nat) (d e:Nat→Int) (h:Int):gQ:={ state:=.ready,pending:=none,fn:=27,nt:=37,fr:=[(8,.ptr 0 1 0 0),(22,.fn (.func 85) [] [.ptrT (some 0) (.G [dv 0 l t k d e]) 0,.ptrT none (.I .i64 [h]) 0])],params:=[23],assign:=yr,body:=yt }
noncomputable def AR (m:Nat) (o:Nat→Int):Nat→Int:=mZ (dR (fun _=>Int.ofNat 0) 0 o m) (m-1)
theorem pn (m:Nat):dg (Int.ofNat m)=m:=by rw[lu];rfl
section
variable (n l k:Nat) (t d e:Nat→Int) (h:Int) (m:Nat) (o:Nat→Int) (L1:aW) (H:aa)
theorem KB (G:aa) (h1:1≤m) (hm:m≤12):cd (n+5) (.fn 63) [.slc 0 0 0 0 1 (dg (Int.ofNat m)) (some (dg (Int.ofNat m)))] (BJ m o::G)=some (.tup [],BK m (AR m o)::G):=by
 have:=Qu n G 0 (fun _=>0) (dR (fun _=>Int.ofNat 0) 0 o m) .undef 0 m h1 hm
 unfold BJ BK AR
 rw[pn,oZ,Nat.min_self]
 exact this
theorem LK (h1:1≤m) (hm:m≤12):cd (n+6) (.round 1 2) [bP m o false] (L1::wv l t k d (dF l t k d e h)::H)=some (.bool true,L1::jq l t k d (dF l t k d e h) 0 1 (fun _=>AR m o) (fun _=>m)::H):=by
 have h1':exec (vT (n+5) 27 37 2 2) yr (Bo l t k d e h m o) (aB::L1::wv l t k d (dF l t k d e h)::H)=some (.normal,uT m o,aB::L1::wv l t k d (dF l t k d e h)::H) :=
  pR (LX (n+5) l k t d e h m o (dF l t k d e h) L1 H) (av _) (af _ _) (ag _ _) (Tr.bk rfl)
 have h2':∃ lv:aW,exec (vT (n+5) 27 37 2 2) yt (uT m o) (aB::L1::wv l t k d ({ dF l t k d e h with state:=.busy })::H)=some (.normal,[],lv::L1::jq l t k d ({ dF l t k d e h with state:=.busy }) 0 1 (fun _=>AR m o) (fun _=>m)::H):=by
  refine ⟨⟨false,[(0,.dead),(0,.row (.G [.slcT none (.M [.arr .i64 (AR m o) m]) 1 m (cu m m)])),(0,.dead)]⟩,pR (LV (n+5) l k t d m o (AR m o) { dF l t k d e h with state:=.busy } L1 H) (aS _ (n+5) (ie (aG _) (fun x hx=>by rw[← Tr.ab hx];exact KB n m o _ h1 hm))) (af _ _) (ag _ _) ?_⟩
  generalize dF l t k d e h=L at *
  generalize AR m o=Y at *
  simp only[pn,c5,xi,xh,bH,gm,Nat.zero_add,Bool.cond_decide,oZ,Nat.min_self,and_self]
  exact wF
 obtain ⟨lv,h2'⟩:=h2'
 exact tc (l:=dF l t k d e h) (l2:={ dF l t k d e h with state:=.busy }) rfl rfl rfl rfl h1' h2' rfl rfl
theorem LL (v q:Nat) (f:Nat→Nat→Int) (g:Nat→Nat) (h1:1≤m) (hm:m≤12) (hq:q<1000):cd (n+6) (.round 1 2) [bP m o false] (L1::jq l t k d (dF l t k d e h) v q f g::H)=some (.bool true,L1::jq l t k d (dF l t k d e h) (v+1) (q+1) (fun j=>if j<q then f j else AR m o) (fun j=>if j<q then g j else m)::H):=by
 have h1':exec (vT (n+5) 27 37 2 2) yr (Bo l t k d e h m o) (aB::L1::jq l t k d (dF l t k d e h) v q f g::H)=some (.normal,uT m o,aB::L1::jq l t k d (dF l t k d e h) v q f g::H) :=
  pR (LY (n+5) l k t d e h m o (dF l t k d e h) v q f g L1 H) (av _) (af _ _) (ag _ _) (Tr.bk rfl)
 have h2':∃ lv:aW,exec (vT (n+5) 27 37 2 2) yt (uT m o) (aB::L1::jq l t k d ({ dF l t k d e h with state:=.busy }) v q f g::H)=some (.normal,[],lv::L1::jq l t k d ({ dF l t k d e h with state:=.busy }) (v+1) (q+1) (fun j=>if j<q then f j else AR m o) (fun j=>if j<q then g j else m)::H):=by
  refine ⟨⟨false,[(0,.dead),(0,.row (.G [.slcT none (.M [.arr .i64 (AR m o) m]) 1 m (cu m m)]))]⟩,pR (LW (n+5) l k t d m o (AR m o) { dF l t k d e h with state:=.busy } v q f g L1 H) (aS _ (n+5) (ie (aG _) (fun x hx=>by rw[← Tr.ab hx];exact KB n m o _ h1 hm))) (af _ _) (ag _ _) ?_⟩
  generalize dF l t k d e h=L at *
  generalize AR m o=Y at *
  simp only[pn,c5,xi,xh,bH,gm,Nat.zero_add,Bool.cond_decide,oZ,Nat.min_self,and_self]
  have ha:DV (fun j=>.slcT none (.M [.arr .i64 (f j) (g j)]) 1 (g j) false) .i64 1 false:=by rw[A9];exact fun j=>⟨_,_,_,rfl⟩
  repeat' first | (refine Tr.bx (fun hc=>?_) (fun hc=>?_)<;>(try simp (disch:=omega) only[nV,nW,ha] at hc)<;>try omega) | (refine Tr.cL ?_ ?_;· (try simp (disch:=omega) only[nV,nW,ha]);try omega) | (refine Tr.bn ?_ ?_;· first | exact trivial | rfl | exact ⟨rfl,rfl⟩ | exact ⟨rfl,rfl,rfl⟩ | (simp (disch:=omega) only[nV,nW,ha];done) | ((try simp (disch:=omega) only[nV,nW,ha]);omega)) | fail
  all_goals first
   | exact Tr.bk rfl
   | fail
 obtain ⟨lv,h2'⟩:=h2'
 exact tc (l:=dF l t k d e h) (l2:={ dF l t k d e h with state:=.busy }) rfl rfl rfl rfl h1' h2' rfl rfl
end
end Go.Eng
end
section
namespace Go.Eng
open Go.Proofs
noncomputable def Fa (l:Nat) (t:Nat→Int) (k:Nat) (d:Nat→Int):aW:=⟨false,[(0,.row (.G [bP l t false,bP k d false])),(0,.row (.G [.nils]))]⟩
noncomputable def Il (l:Nat) (t:Nat→Int) (k:Nat) (d:Nat→Int) (v m:Nat) (f:Nat→Nat→Int) (g:Nat→Nat):aW:=⟨false,[(0,.row (.G [bP l t false,bP k d false])),(0,.row (.G [.slc 0 3 v 0 1 m none])),(0,.dead),(v,.row (.F (fun j=>bP (g j) (f j) false) m))]⟩
noncomputable def xT (l:Nat) (t:Nat→Int) (k:Nat) (d e:Nat→Int) (h:Int):ao:=[(8,.ptr 0 1 0 0),(22,.fn (.func 85) [] [.ptrT (some 0) (.G [dv 0 l t k d e]) 0,.ptrT none (.I .i64 [h]) 0])]
theorem S3 (n s l k:Nat) (t d g:Nat→Int) (h:Int) (H:aa):aZ Try.prog (cd n) 100000 62 Try.f62 (KtL.kt 62) (il aH n 0) aN aO [(dv s l t k d g,none),(.int .i64 h,none)] H =
 Tr.ok ((AV.fn (Fn.func 85) [] [AV.ptrT (some 0) (Row.G [AV.ptrT (some s) (Row.M [ah.one (AV.slcT none (Row.M [ah.arr .i64 t l]) 1 l false),ah.one (AV.slcT none (Row.M [ah.arr .i64 d k]) 1 k false),ah.arr .i64 g 30]) 0]) 0,AV.ptrT none (Row.I .i64 [h]) 0],none),H):=by kernel_rfl
theorem SO (n l k:Nat) (t d e:Nat→Int) (h:Int) (v m:Nat) (f:Nat→Nat→Int) (g:Nat→Nat) (H:aa):aZ Try.prog (cd n) 100000 27 Try.f27 (KtL.kt 27) (il (tX (tX aH 61 [cg l t k d,.int .i64 h,.int .i64 0] (.tup [dv 0 l t k d e,.int .i64 0])) 62 [dv 0 l t k d e,.int .i64 h] (.fn (.func 85) [] [.ptrT (some 0) (.G [dv 0 l t k d e]) 0,.ptrT none (.I .i64 [h]) 0])) n 0) aN (Kn aO (fun _=>true) (xT l t k d e h) (Fa l t k d::H) (.ok (.normal,hints (xT l t k d e h),Il l t k d v m f g::H))) [(cg l t k d,none),(.int .i64 h,none)] H =
 (fun (Z0:Row)=>((fun (Z1:Row)=>((fun (Z2:ao)=>Tr.reqP ([AV.agg Z1,AV.int .i64 h,AV.int .i64 (Int.ofNat 0)]=[AV.agg Z1,AV.int .i64 h,AV.int .i64 (Int.ofNat 0)]) (Tr.ite (ay (bJ (Int.ofNat 0) (Int.ofNat 0))) (Tr.ok ((AV.tup [AV.nils,AV.int .i64 (Int.ofNat 0)],none),H)) (Tr.reqP ([AV.ptrT (some 0) Z0 0,AV.int .i64 h]=[AV.ptrT (some 0) Z0 0,AV.int .i64 h]) (Tr.reqP (Z2=Z2∧{ lock:=false,bs:=[(0,ak.row Z1),(0,ak.row (Row.G [AV.nils]))] } :: H={ lock:=false,bs:=[(0,ak.row Z1),(0,ak.row (Row.G [AV.nils]))] } :: H) (Tr.req (cu v v) (Tr.req (fW 0 m 0 m) (Tr.ok ((AV.tup [AV.slcT none (Row.F (fun j=>AV.slcT none (Row.M [ah.arr .i64 (f (bY 0 j)) (g (bY 0 j))]) 1 (g (bY 0 j)) false) m) 1 m false,AV.int .i64 (Int.ofNat 0)],none),H)))))))) [(8,AV.ptr 0 1 0 0),(22,AV.fn (Fn.func 85) [] [AV.ptrT (some 0) (Row.G [AV.ptrT (some 0) Z0 0]) 0,AV.ptrT none (Row.I .i64 [h]) 0])])) (Row.G [AV.slcT none (Row.M [ah.arr .i64 t l]) 1 l false,AV.slcT none (Row.M [ah.arr .i64 d k]) 1 k false]))) (Row.M [ah.one (AV.slcT none (Row.M [ah.arr .i64 t l]) 1 l false),ah.one (AV.slcT none (Row.M [ah.arr .i64 d k]) 1 k false),ah.arr .i64 e 30]):=by kernel_rfl
theorem O9 (n l k:Nat) (t d:Nat→Int) (h c:Int) (H:aa):aZ Try.prog (cd n) 100000 27 Try.f27 (KtL.kt 27) (il (tX aH 61 [cg l t k d,.int .i64 h,.int .i64 0] (.tup [.nilp,.int .i64 c])) n 0) aN (Kn aO (fun _=>true) [] [] .bad) [(cg l t k d,none),(.int .i64 h,none)] H =
 (fun (Z0:List AV)=>Tr.reqP (Z0=Z0) (Tr.ite (ay (bJ c (Int.ofNat 0))) (Tr.ok ((AV.tup [AV.nils,AV.int .i64 c],none),H)) Tr.bad)) [AV.agg (Row.G [AV.slcT none (Row.M [ah.arr .i64 t l]) 1 l false,AV.slcT none (Row.M [ah.arr .i64 d k]) 1 k false]),AV.int .i64 h,AV.int .i64 (Int.ofNat 0)]:=by kernel_rfl
end Go.Eng
end
section
namespace Go.Eng
open Go.Proofs
theorem Qt (n s l k:Nat) (t d g:Nat→Int) (h:Int) (H:aa):cd (n+1) (.fn 62) [dv s l t k d g,.int .i64 h] H=some (.fn (.func 85) [] [.ptrT (some 0) (.G [dv s l t k d g]) 0,.ptrT none (.I .i64 [h]) 0],H):=by
 refine aL (n:=n) Try.func62 rfl rfl rfl (S3 n s l k t d g h H) (av _) (af _ _) (ag _ _) ?_
 exact wF
noncomputable def gP (l k:Nat) (t d:Nat→Int) (h:Int) (m j:Nat):Nat:=(w8 l k t d h (min j m)).length
noncomputable def fP (l k:Nat) (t d:Nat→Int) (h:Int) (m j:Nat):Nat→Int:=AR (gP l k t d h m j) (aA (w8 l k t d h (min j m)))
theorem GF (l k:Nat) (t d:Nat→Int) (h:Int) (m:Nat):(fun j=>if j<m+1 then gP l k t d h m j else (w8 l k t d h (m+1)).length)=gP l k t d h (m+1):=by
 funext j
 unfold gP
 by_cases c:j<m+1
 · rw[if_pos c,show min j m=j by omega,show min j (m+1)=j by omega]
 · rw[if_neg c,show min j (m+1)=m+1 by omega]
theorem Gz (l k:Nat) (t d:Nat→Int) (h:Int) (m:Nat):(fun j=>if j<m+1 then fP l k t d h m j else AR (w8 l k t d h (m+1)).length (aA (w8 l k t d h (m+1))))=fP l k t d h (m+1):=by
 funext j
 unfold fP gP
 by_cases c:j<m+1
 · rw[if_pos c,show min j m=j by omega,show min j (m+1)=j by omega]
 · rw[if_neg c,show min j (m+1)=m+1 by omega]
section
variable (n l k:Nat) (t d:Nat→Int) (h:Int) (H:aa)
theorem JV (hs:Sh l t k d) (hc:cV l t d h=true) (hh:1≤h∧h≤10) (m:Nat) (hm:m<iq l t d h):1≤(w8 l k t d h m).length∧(w8 l k t d h m).length≤h.toNat:=by
 have e:h=(h.toNat:Int):=by omega
 obtain ⟨M,a,b,c,f⟩:=FP (H:=h.toNat) (z:=zP l t k d (iq l t d h:Nat)) (f0:=br (cw t l)) hs.l30 hs.tl (by omega) (fun i hi=>by
  rw[sf hs i hi]
  have:=m5 (fun x=>decide (t x=(i:Int))) l
  have:=hs.l30
  omega)
 have hM:=vI hs hc e a b c
 obtain ⟨P,p1,p2⟩:=f m (by omega)
 obtain ⟨q,a1,a2,a3,a4,a5,a6,_⟩:=FY (z:=zP l t k d (iq l t d h:Nat)) hs.l30 hs.tl (show 0<h.toNat by omega) (b m (by omega)) p2
 unfold w8 JU
 rw[a5,a6]
 omega
noncomputable def Jh (l k:Nat) (t d:Nat→Int) (h:Int) (H:aa):Nat→aa
 | 0=>wv l t k d (dF l t k d (cw t l) h)::H
 | m+1=>jq l t k d (dF l t k d (cw t l) h) m (m+1) (fP l k t d h m) (gP l k t d h m)::H
theorem Tk (hs:Sh l t k d) (hc:cV l t d h=true) (hh:1≤h∧h≤10) (T:Nat) (hT:iq l t d h=T+1):exec (bt (n+7) 27 37) (.rangeFunc (.tmp 22) #[23] yr yt) (xT l t k d (cw t l) h) (Fa l t k d::H)=some (.normal,xT l t k d (cw t l) h,Il l t k d T (T+1) (fP l k t d h T) (gP l k t d h T)::H):=by
 have hy:∀ m,m<iq l t d h→∀ L:aW,L.lock=false→cd (n+1+5) (.round 1 2) [bP (w8 l k t d h m).length (aA (w8 l k t d h m)) false] (L::Jh l k t d h H m)=some (.bool true,L::Jh l k t d h H (m+1)):=fun m hm L _=>by
  obtain ⟨r1,r2⟩:=JV l k t d h hs hc hh m hm
  have htr:=(pr hs hc).2.2
  cases m with
  | zero =>
    have:=LK n l k t d (cw t l) h (w8 l k t d h 0).length (aA (w8 l k t d h 0)) L H r1 (by omega)
    have e1:gP l k t d h 0=fun _=>(w8 l k t d h 0).length:=by funext j;unfold gP;rw[Nat.min_zero]
    have e2:fP l k t d h 0=fun _=>AR (w8 l k t d h 0).length (aA (w8 l k t d h 0)):=by funext j;unfold fP gP;rw[Nat.min_zero]
    show _=some (_,L::jq l t k d (dF l t k d (cw t l) h) 0 1 (fP l k t d h 0) (gP l k t d h 0)::H)
    rw[e1,e2]
    exact this
  | succ m =>
    have:=LL n l k t d (cw t l) h (w8 l k t d h (m+1)).length (aA (w8 l k t d h (m+1))) L H m (m+1) (fP l k t d h m) (gP l k t d h m) r1 (by omega) (by omega)
    rw[GF,Gz] at this
    exact this
 have hcall:=Nb (n+1) 0 l k t d h (Jh l k t d h H) hs hc hh hy
 rw[hT] at hcall
 exact zg (cx:=bt (n+7) 27 37) (l:=dF l t k d (cw t l) h) (f:=.tmp 22) (ps:=#[23]) (fr:=xT l t k d (cw t l) h) (H:=Fa l t k d::H) (g:=85) (a:=[]) (b:=[.ptrT (some 0) (.G [dv 0 l t k d (cw t l)]) 0,.ptrT none (.I .i64 [h]) 0]) rfl rfl rfl hcall rfl rfl rfl
theorem SH:dV (bm Try.f27)=[(.tmp 22,#[23],yr,yt)]:=by kernel_rfl
noncomputable def LC (l k:Nat) (t d:Nat→Int) (h:Int):AV:=if fi l k t d h=0 then .tup [fF (iq l t d h) (fP l k t d h (iq l t d h-1)) (gP l k t d h (iq l t d h-1)),.int .i64 0] else .tup [.nils,.int .i64 (fi l k t d h)]
theorem Ql:cd (n+12) (.fn 27) [cg l t k d,.int .i64 h] H=some (LC l k t d h,H):=by
 unfold LC
 by_cases e:fi l k t d h=0
 · rw[if_pos e]
   obtain ⟨e1,e2⟩:=BT e
   obtain ⟨hs,h1,h2⟩:=z6 e1
   obtain ⟨_,b,_⟩:=pr hs e2
   obtain ⟨T,hT⟩:∃ T,iq l t d h=T+1:=⟨iq l t d h-1,by omega⟩
   have hx:=Tk (n+4) l k t d h H hs e2 ⟨h1,h2⟩ T hT
   rw[hT,Nat.add_sub_cancel]
   refine aL (n:=n+11) Try.func27 rfl rfl rfl (SO (n+11) l k t d (cw t l) h T (T+1) (fP l k t d h T) (gP l k t d h T) H) (aS _ (n+11) (bf (bf (aG _) (fun H=>MZ n l k t d H h e)) (fun H=>Qt (n+10) 0 l k t d (cw t l) h H))) (af _ _) (wZ (ag _ _) (fun f ps a b _ hm x hx2=>by
    rw[SH] at hm
    simp only[List.mem_cons,Prod.mk.injEq,List.not_mem_nil,or_false] at hm
    obtain ⟨rfl,rfl,rfl,rfl⟩:=hm
    rw[← Tr.ab hx2];exact hx)) ?_
   show Tr.all _ _
   simp only[bH,Nat.zero_add]
   generalize fP l k t d h T=A at *
   generalize gP l k t d h T=B at *
   exact wF
 · rw[if_neg e]
   refine aL (n:=n+11) Try.func27 rfl rfl rfl (O9 (n+11) l k t d h (fi l k t d h) H) (aS _ (n+11) (bf (aG _) (fun H=>MY n l k t d H h e))) (af _ _) (wZ (ag _ _) (fun f ps a b _ hm x hx2=>(Tr.ae hx2).elim)) ?_
   generalize fi l k t d h=N at *
   exact wF
end
end Go.Eng
end
section
namespace Go.Eng
open Go.Proofs
noncomputable def kT (l:Nat) (t:Nat→Int) (k:Nat) (d z:Nat→Int):aW:=⟨false,[F2 l t k d,(0,.row (.M [.arr .i64 z l]))]⟩
noncomputable def CW (l m:Nat) (f:Nat→Nat→Int) (g:Nat→Nat) (c i:Int):ao:=[(1,fF m f g),(2,.ptr 0 0 0 0),(6,.slc 0 1 0 0 1 l (some l)),(7,.int .i64 c),(8,.int .i64 i)]
noncomputable def qJ (l m:Nat) (f:Nat→Nat→Int) (g:Nat→Nat) (c i j:Int):ao:=[(1,fF m f g),(2,.ptr 0 0 0 0),(6,.slc 0 1 0 0 1 l (some l)),(7,.int .i64 c),(8,.int .i64 i),(9,.int .i64 j)]
theorem LZ (n l k:Nat) (t d z:Nat→Int) (m:Nat) (f:Nat→Nat→Int) (g:Nat→Nat) (c i j x:Int) (b:Bool) (H:aa):aQ (bt n 47 64) (il (tX aH 59 [cg l t k d,.int .i64 (f (ar 0 i 1) (ar 0 j 1))] (.bool b)) n 0) aN aO (part Try.f47 [1,1,1,1,0,1,0,0,1,0,0,1,0,0]) (hints (qJ l m f g c i j)) (kT l t k d z::H) =
 (fun (Z0:Row)=>((fun (Z1:aW)=>((fun (Z2:Nat×AV×Option Nat)=>Tr.req (cS i m) (Tr.req (cJ (ar 0 i 1) m) (Tr.ite (bV j (Int.ofNat (g (ar 0 i 1)))) (Tr.req (cS i m) (Tr.req (cJ (ar 0 i 1) m) (Tr.req (cS j (g (ar 0 i 1))) (Tr.req (cJ (ar 0 j 1) (g (ar 0 i 1))) (Tr.reqP ([AV.agg Z0,AV.int .i64 (f (ar 0 i 1) (ar 0 j 1))]=[AV.agg Z0,AV.int .i64 (f (ar 0 i 1) (ar 0 j 1))]) (Tr.ite (ay b) (Tr.ok (Ex.ret,[(4,AV.nils,none),(5,AV.int .i64 (Int.ofNat 15),some 1)],Z1::H)) (Tr.req (cS (f (ar 0 i 1) (ar 0 j 1)) l) (Tr.req (cu 0 0) (Tr.req (cJ (ar 0 (f (ar 0 i 1) (ar 0 j 1)) 1) l) (Tr.ite (ay (bJ (z (ar 0 (f (ar 0 i 1) (ar 0 j 1)) 1)) (Int.ofNat 0))) (Tr.ok (Ex.ret,[(4,AV.nils,none),(5,AV.int .i64 (Int.ofNat 15),some 1)],Z1::H)) (Tr.req (cS (f (ar 0 i 1) (ar 0 j 1)) l) (Tr.req (cu 0 0) (Tr.req (cJ (ar 0 (f (ar 0 i 1) (ar 0 j 1)) 1) l) (Tr.ok (Ex.normal,[Z2,(2,AV.ptr 0 0 0 0,none),(6,AV.slc 0 1 0 0 1 l (some l),none),(7,AV.int .i64 (bE .i64 c (Int.ofNat 1)),none),(8,AV.int .i64 i,none),(9,AV.int .i64 (bE .i64 j (Int.ofNat 1)),none)],{ lock:=false,bs:=[(0,ak.row Z0),(0,ak.row (Row.M [ah.arr .i64 (fH z (ar 0 (f (ar 0 i 1) (ar 0 j 1)) 1) (bE .i64 i (Int.ofNat 1))) l]))] } :: H))))))))))))))) (Tr.ok (Ex.exit 2,[Z2,(2,AV.ptr 0 0 0 0,none),(6,AV.slc 0 1 0 0 1 l (some l),none),(7,AV.int .i64 c,none),(8,AV.int .i64 i,none),(9,AV.int .i64 j,none),(30,AV.bool false,some 1)],Z1::H))))) (1,AV.slcT none (Row.F (fun j=>AV.slcT none (Row.M [ah.arr .i64 (f j) (g j)]) 1 (g j) false) m) 1 m false,none))) { lock:=false,bs:=[(0,ak.row Z0),(0,ak.row (Row.M [ah.arr .i64 z l]))] })) (Row.G [AV.slcT none (Row.M [ah.arr .i64 t l]) 1 l false,AV.slcT none (Row.M [ah.arr .i64 d k]) 1 k false]):=by kernel_rfl
theorem OL (n l k:Nat) (t d z:Nat→Int) (m:Nat) (f:Nat→Nat→Int) (g:Nat→Nat) (c i:Int) (H:aa):aQ (bt n 47 64) (il aH n 0) (bZ aN 2 [] [] .bad) aO (part Try.f47 [1,1,1,1,0,1,0,0]) (hints (CW l m f g c i)) (kT l t k d z::H) =
 (fun (Z0:aW)=>((fun (Z1:Row)=>Tr.ite (bV i (Int.ofNat m)) (Tr.reqP ([(1,AV.slcT none Z1 1 m false),(2,AV.ptr 0 0 0 0),(6,AV.slc 0 1 0 0 1 l (some l)),(7,AV.int .i64 c),(8,AV.int .i64 i),(9,AV.int .i64 (Int.ofNat 0))]=[]∧Z0::H=[]) Tr.bad) (Tr.ok (Ex.exit 0,[(1,AV.slcT none Z1 1 m false,none),(2,AV.ptr 0 0 0 0,none),(6,AV.slc 0 1 0 0 1 l (some l),none),(7,AV.int .i64 c,none),(8,AV.int .i64 i,none),(21,AV.bool false,some 1)],Z0::H))) (Row.F (fun j=>AV.slcT none (Row.M [ah.arr .i64 (f j) (g j)]) 1 (g j) false) m))) { lock:=false,bs:=[(0,ak.row (Row.G [AV.slcT none (Row.M [ah.arr .i64 t l]) 1 l false,AV.slcT none (Row.M [ah.arr .i64 d k]) 1 k false])),(0,ak.row (Row.M [ah.arr .i64 z l]))] }:=by kernel_rfl
theorem SR (n l k:Nat) (t d:Nat→Int) (m:Nat) (f:Nat→Nat→Int) (g:Nat→Nat) (H:aa):aZ Try.prog (cd n) 100000 47 Try.f47 (KtL.kt 47) (il aH n 0) (bZ aN 0 [] [] .bad) aO [(cg l t k d,none),(fF m f g,none)] H =
 Tr.ite (bV (Int.ofNat 40) (Int.ofNat m)) (Tr.ok ((AV.tup [AV.nils,AV.int .i64 (Int.ofNat 6)],none),H)) (Tr.req (De (Int.ofNat l) (Int.ofNat l) 8) (Tr.reqP ([(1,AV.slcT none (Row.F (fun j=>AV.slcT none (Row.M [ah.arr .i64 (f j) (g j)]) 1 (g j) false) m) 1 m false),(2,AV.ptr 0 0 0 0),(6,AV.slc 0 1 0 0 1 (dg (Int.ofNat l)) (some (dg (Int.ofNat l)))),(7,AV.int .i64 (Int.ofNat 0)),(8,AV.int .i64 (Int.ofNat 0))]=[]∧{ lock:=false,bs:=[(0,ak.row (Row.G [AV.slcT none (Row.M [ah.arr .i64 t l]) 1 l false,AV.slcT none (Row.M [ah.arr .i64 d k]) 1 k false])),(0,ak.row (Row.M [ah.arr .i64 (fun x=>Int.ofNat 0) (dg (Int.ofNat l))]))] } :: H=[]) Tr.bad)):=by kernel_rfl
def pz (l:Nat) (z:Nat→Int) (c:Int):Bool:=!(decide (0≤c) && decide (c<l)) || decide (z c.toNat≠0)
def jb (o:Nat→Int) (T:Int) (z:Nat→Int):Nat→Nat→Int
 | 0=>z
 | j+1=>uI (jb o T z j) (o j).toNat T
section
variable (n l k:Nat) (t d z:Nat→Int) (m:Nat) (f:Nat→Nat→Int) (g:Nat→Nat) (H:aa)
theorem NY (C i:Nat) (hi:i<m) (hm:m≤40) (hg:g i<1000) (hC:C<100000):exec (bt (n+1) 47 64) (.block 2 (.loop (part Try.f47 [1,1,1,1,0,1,0,0,1,0,0,1,0,0]))) (qJ l m f g (C:Nat) (i:Nat) ((0:Nat):Int)) (kT l t k d z::H)=some (cond (cU (fun j=>pz l (jb (f i) ((i+1:Nat):Int) z j) (f i j)) (g i)) (.ret,[(4,.nils),(5,.int .i64 15)],kT l t k d (jb (f i) ((i+1:Nat):Int) z (fN (fun j=>pz l (jb (f i) ((i+1:Nat):Int) z j) (f i j)) (g i) 0))::H) (.normal,qJ l m f g ((C+g i:Nat):Int) (i:Nat) (Int.ofNat (g i))++[(30,.bool false)],kT l t k d (jb (f i) ((i+1:Nat):Int) z (g i))::H)):=by
 refine lA (n:=n+1) (f:=47) (nt:=64) (c:=part Try.f47 [1,1,1,1,0,1,0,0,1,0,0,1,0,0]) 2 (fun j=>qJ l m f g ((C+j:Nat):Int) (i:Nat) (j:Nat)) (fun j=>kT l t k d (jb (f i) ((i+1:Nat):Int) z j)::H) (g i) (fun j=>pz l (jb (f i) ((i+1:Nat):Int) z j) (f i j)) (fun j=>([(4,.nils),(5,.int .i64 15)],kT l t k d (jb (f i) ((i+1:Nat):Int) z j)::H)) _ (by omega) (fun j hj=>?_) ?_
 · refine aK (LZ (n+1) l k t d (jb (f i) ((i+1:Nat):Int) z j) m f g ((C+j:Nat):Int) (i:Nat) (j:Nat) 0 (decide (0≤f (ar 0 ((i:Nat):Int) 1) (ar 0 ((j:Nat):Int) 1)) && decide (f (ar 0 ((i:Nat):Int) 1) (ar 0 ((j:Nat):Int) 1)<l)) H) (aS _ (n+1) (bf (aG _) (fun H=>PR n l k t d H _))) (af _ _) (ag _ _) ?_
   show Tr.all _ (fun r=>if pz l (jb (f i) ((i+1:Nat):Int) z j) (f i j)=true then _ else _∧tidy _ _ _=(qJ l m f g ((C+(j+1):Nat):Int) (i:Nat) ((j+1:Nat):Int),kT l t k d (uI (jb (f i) ((i+1:Nat):Int) z j) (f i j).toNat ((i+1:Nat):Int))::H))
   rw[dx (j:=j) (by omega),dx (j:=i) (by omega),dx (j:=C+j) (by omega)]
   simp only[jo]
   generalize jb (f i) ((i+1:Nat):Int) z j=Z at *
   by_cases hr:0≤f i j∧f i j<l
   · obtain ⟨c,hc⟩:∃ c:Nat,f i j=c:=⟨(f i j).toNat,by omega⟩
     rw[hc] at hr ⊢
     have e1:(decide (0≤(c:Int)) && decide ((c:Int)<l))=true:=by rw[decide_eq_true hr.1,decide_eq_true hr.2];rfl
     rw[Int.toNat_natCast]
     simp only[jo,e1,tG]
     by_cases h0:Z c=0
     · have eb:pz l Z (c:Int)=false:=by unfold pz;rw[e1,Int.toNat_natCast,decide_eq_false (by simpa using h0)];rfl
       rw[eb]
       simp only[Bool.false_eq_true,if_false]
       generalize uI Z c ((i+1:Nat):Int)=Z2 at *
       exact wF
     · have eb:pz l Z (c:Int)=true:=by unfold pz;rw[e1,Int.toNat_natCast,decide_eq_true h0];rfl
       rw[eb]
       simp only[if_true]
       exact wF
   · have e1:(decide (0≤f i j) && decide (f i j<l))=false:=by
      cases hx:(decide (0≤f i j) && decide (f i j<l)) with
      | false=>rfl
      | true =>
        simp only[Bool.and_eq_true,decide_eq_true_eq] at hx
        exact absurd hx hr
     have eb:pz l Z (f i j)=true:=by unfold pz;rw[e1];rfl
     rw[e1,eb]
     simp only[if_true]
     exact wF
 · have hz:∃ Z,Z=jb (f i) ((i+1:Nat):Int) z (g i):=⟨_,rfl⟩
   obtain ⟨Z,hZ⟩:=hz
   have hG:∃ q,q=g i:=⟨_,rfl⟩
   obtain ⟨q,hq⟩:=hG
   obtain ⟨x,hx,rfl⟩:=aK (Q:=fun x=>x=(.exit 2,qJ l m f g ((C+q:Nat):Int) (i:Nat) (Int.ofNat q)++[(30,.bool false)],kT l t k d Z::H)) (LZ (n+1) l k t d Z m f g ((C+q:Nat):Int) (i:Nat) (Int.ofNat q) 0 (decide (0≤f (ar 0 ((i:Nat):Int) 1) (ar 0 (Int.ofNat q) 1)) && decide (f (ar 0 ((i:Nat):Int) 1) (ar 0 (Int.ofNat q) 1)<l)) H) (aS _ (n+1) (bf (aG _) (fun H=>PR n l k t d H _))) (af _ _) (ag _ _) (by
    have e1:bV (Int.ofNat q) (Int.ofNat (g i))=false:=by rw[eL,hq];simp
    simp only[jo,e1]
    exact wF
    )
   rw[← hq] at hZ ⊢
   rw[← hZ]
   exact hx
end
end Go.Eng
end
section
namespace Go.Eng
open Go.Proofs
theorem Ku:∀ b,(2,b) ∈ aJ (part Try.f47 [1,1,1,1,0,1,0,0])→b=.loop (part Try.f47 [1,1,1,1,0,1,0,0,1,0,0,1,0,0]):=fa (by kernel_rfl)
theorem OM (n l k:Nat) (t d z z1 z2:Nat→Int) (m:Nat) (f:Nat→Nat→Int) (g:Nat→Nat) (c i c2 q:Int) (b:Bool) (H:aa):aQ (bt n 47 64) (il aH n 0) (bZ aN 2 (qJ l m f g c i 0) (kT l t k d z::H) (.ite b (.ok (.ret,hints [(4,.nils),(5,.int .i64 15)],kT l t k d z1::H)) (.ok (.normal,hints (qJ l m f g c2 i q++[(30,.bool false)]),kT l t k d z2::H)))) aO (part Try.f47 [1,1,1,1,0,1,0,0]) (hints (CW l m f g c i)) (kT l t k d z::H) =
 (fun (Z0:Nat×ak)=>((fun (Z1:Row)=>((fun (Z2:ao)=>((fun (Z3:aW)=>Tr.ite (bV i (Int.ofNat m)) (Tr.reqP (Z2=Z2∧Z3::H=Z3::H) (Tr.ite b (Tr.ok (Ex.ret,[(4,AV.nils,none),(5,AV.int .i64 (Int.ofNat 15),none)],{ lock:=false,bs:=[Z0,(0,ak.row (Row.M [ah.arr .i64 z1 l]))] } :: H)) (Tr.ok (Ex.normal,[(1,AV.slcT none Z1 1 m false,none),(2,AV.ptr 0 0 0 0,none),(6,AV.slc 0 1 0 0 1 l (some l),none),(7,AV.int .i64 c2,none),(8,AV.int .i64 (bE .i64 i (Int.ofNat 1)),none)],{ lock:=false,bs:=[Z0,(0,ak.row (Row.M [ah.arr .i64 z2 l]))] } :: H)))) (Tr.ok (Ex.exit 0,[(1,AV.slcT none Z1 1 m false,none),(2,AV.ptr 0 0 0 0,none),(6,AV.slc 0 1 0 0 1 l (some l),none),(7,AV.int .i64 c,none),(8,AV.int .i64 i,none),(21,AV.bool false,some 1)],Z3::H))) { lock:=false,bs:=[Z0,(0,ak.row (Row.M [ah.arr .i64 z l]))] })) [(1,AV.slcT none Z1 1 m false),(2,AV.ptr 0 0 0 0),(6,AV.slc 0 1 0 0 1 l (some l)),(7,AV.int .i64 c),(8,AV.int .i64 i),(9,AV.int .i64 (Int.ofNat 0))])) (Row.F (fun j=>AV.slcT none (Row.M [ah.arr .i64 (f j) (g j)]) 1 (g j) false) m))) (0,ak.row (Row.G [AV.slcT none (Row.M [ah.arr .i64 t l]) 1 l false,AV.slcT none (Row.M [ah.arr .i64 d k]) 1 k false])):=by kernel_rfl
def fo (f:Nat→Nat→Int) (g:Nat→Nat):Nat→Nat→Int
 | 0=>fun _=>Int.ofNat 0
 | i+1=>jb (f i) ((i+1:Nat):Int) (fo f g i) (g i)
def oe (l:Nat) (f:Nat→Nat→Int) (g:Nat→Nat) (i:Nat):Bool:=cU (fun j=>pz l (jb (f i) ((i+1:Nat):Int) (fo f g i) j) (f i j)) (g i)
theorem FX {g:Nat→Nat} {m:Nat} (hg:∀ i,i<m→g i<1000):∀ i,i≤m→bD g i≤i*1000
 | 0,_=>Nat.le_refl _
 | i+1,hi=>by
   have:=FX hg i (by omega)
   have:=hg i (by omega)
   show bD g i+g i≤(i+1)*1000
   omega
section
variable (n l k:Nat) (t d:Nat→Int) (m:Nat) (f:Nat→Nat→Int) (g:Nat→Nat) (H:aa)
theorem NZ (hm:m≤40) (hg:∀ i,i<m→g i<1000):∃ X:Nat→Nat→Int,exec (bt (n+1) 47 64) (.block 0 (.loop (part Try.f47 [1,1,1,1,0,1,0,0]))) (CW l m f g ((bD g 0:Nat):Int) ((0:Nat):Int)) (kT l t k d (fo f g 0)::H)=some (cond (cU (oe l f g) m) (.ret,[(4,.nils),(5,.int .i64 15)],kT l t k d (X (fN (oe l f g) m 0))::H) (.normal,CW l m f g ((bD g m:Nat):Int) (Int.ofNat m)++[(21,.bool false)],kT l t k d (fo f g m)::H)):=by
 refine ⟨fun i=>jb (f i) ((i+1:Nat):Int) (fo f g i) (fN (fun j=>pz l (jb (f i) ((i+1:Nat):Int) (fo f g i) j) (f i j)) (g i) 0),?_⟩
 refine lA (n:=n+1) (f:=47) (nt:=64) (c:=part Try.f47 [1,1,1,1,0,1,0,0]) 0 (fun i=>CW l m f g ((bD g i:Nat):Int) (i:Nat)) (fun i=>kT l t k d (fo f g i)::H) m (oe l f g) (fun i=>([(4,.nils),(5,.int .i64 15)],kT l t k d (jb (f i) ((i+1:Nat):Int) (fo f g i) (fN (fun j=>pz l (jb (f i) ((i+1:Nat):Int) (fo f g i) j) (f i j)) (g i) 0))::H)) _ (by omega) (fun i hi=>?_) ?_
 · have ht:=FX hg i (by omega)
   have hx:=NY n l k t d (fo f g i) m f g H (bD g i) i hi hm (hg i hi) (by omega)
   refine aK (OM (n+1) l k t d (fo f g i) (jb (f i) ((i+1:Nat):Int) (fo f g i) (fN (fun j=>pz l (jb (f i) ((i+1:Nat):Int) (fo f g i) j) (f i j)) (g i) 0)) (fo f g (i+1)) m f g ((bD g i:Nat):Int) (i:Nat) ((bD g i+g i:Nat):Int) (Int.ofNat (g i)) (oe l f g i) H) (av _) (aD (af _ _) Ku (fun x hy=>fp hy hx)) (ag _ _) ?_
   show Tr.all _ (fun r=>if oe l f g i=true then _ else _∧tidy _ _ _=(CW l m f g ((bD g i+g i:Nat):Int) ((i+1:Nat):Int),kT l t k d (fo f g (i+1))::H))
   rw[dx (j:=i) (by omega)]
   clear hx
   generalize oe l f g i=B at *
   generalize fo f g (i+1)=Z2 at *
   generalize bD g i+g i=C2 at *
   generalize jb (f i) ((i+1:Nat):Int) (fo f g i) (fN (fun j=>pz l (jb (f i) ((i+1:Nat):Int) (fo f g i) j) (f i j)) (g i) 0)=Z1 at *
   cases B with
   | true =>
     simp only[if_true]
     exact wF
   | false =>
     simp only[Bool.false_eq_true,if_false]
     exact wF
 · exact cW (OL (n+1) l k t d (fo f g m) m f g ((bD g m:Nat):Int) (Int.ofNat m) H) (av _) (aD (af _ _) Ku (fun x hx=>(Tr.ae hx).elim)) (ag _ _) (by first | (simp (disch:=omega) only[nV,nW];done) | (simp (disch:=omega) only[nV,nW];omega))
end
end Go.Eng
end
section
namespace Go.Eng
open Go.Proofs
noncomputable def sG (l:Nat) (t:Nat→Int) (k:Nat) (d z:Nat→Int):aW:=⟨false,[F2 l t k d,(0,.row (.M [.arr .i64 z (dg (Int.ofNat l))]))]⟩
noncomputable def xU (l m:Nat) (f:Nat→Nat→Int) (g:Nat→Nat) (c i:Int):ao:=[(1,fF m f g),(2,.ptr 0 0 0 0),(6,.slc 0 1 0 0 1 (dg (Int.ofNat l)) (some (dg (Int.ofNat l)))),(7,.int .i64 c),(8,.int .i64 i)]
theorem Pc (n l k:Nat) (t d z1 z2:Nat→Int) (m:Nat) (f:Nat→Nat→Int) (g:Nat→Nat) (c q:Int) (b:Bool) (H:aa):aZ Try.prog (cd n) 100000 47 Try.f47 (KtL.kt 47) (il aH n 0) (bZ aN 0 (xU l m f g 0 0) (sG l t k d (fun _=>Int.ofNat 0)::H) (.ite b (.ok (.ret,hints [(4,.nils),(5,.int .i64 15)],sG l t k d z1::H)) (.ok (.normal,hints (xU l m f g c q++[(21,.bool false)]),sG l t k d z2::H)))) aO [(cg l t k d,none),(fF m f g,none)] H =
 (fun (Z0:ao)=>((fun (Z1:aW)=>Tr.ite (bV (Int.ofNat 40) (Int.ofNat m)) (Tr.ok ((AV.tup [AV.nils,AV.int .i64 (Int.ofNat 6)],none),H)) (Tr.req (De (Int.ofNat l) (Int.ofNat l) 8) (Tr.reqP (Z0=Z0∧Z1::H=Z1::H) (Tr.ite b (Tr.ok ((AV.tup [AV.nils,AV.int .i64 (Int.ofNat 15)],none),H)) (Tr.ite (ay (bJ c (Int.ofNat l))) (Tr.ok ((AV.tup [AV.nils,AV.int .i64 (Int.ofNat 15)],none),H)) (Tr.req (cu 0 0) (Tr.req (fW 0 (dg (Int.ofNat l)) 0 (dg (Int.ofNat l))) (Tr.ok ((AV.tup [AV.slcT none (Row.M [ah.arr .i64 (dE z2 0) (dg (Int.ofNat l))]) 1 (dg (Int.ofNat l)) (cu (dg (Int.ofNat l)) (dg (Int.ofNat l))),AV.int .i64 (Int.ofNat 0)],none),H))))))))) { lock:=false,bs:=[(0,ak.row (Row.G [AV.slcT none (Row.M [ah.arr .i64 t l]) 1 l false,AV.slcT none (Row.M [ah.arr .i64 d k]) 1 k false])),(0,ak.row (Row.M [ah.arr .i64 (fun x=>Int.ofNat 0) (dg (Int.ofNat l))]))] })) [(1,AV.slcT none (Row.F (fun j=>AV.slcT none (Row.M [ah.arr .i64 (f j) (g j)]) 1 (g j) false) m) 1 m false),(2,AV.ptr 0 0 0 0),(6,AV.slc 0 1 0 0 1 (dg (Int.ofNat l)) (some (dg (Int.ofNat l)))),(7,AV.int .i64 (Int.ofNat 0)),(8,AV.int .i64 (Int.ofNat 0))]:=by kernel_rfl
theorem PK:∀ b,(0,b) ∈ aJ (bm Try.f47)→b=.loop (part Try.f47 [1,1,1,1,0,1,0,0]):=fa (by kernel_rfl)
noncomputable def Mo (l m:Nat) (f:Nat→Nat→Int) (g:Nat→Nat):AV:=if 40<m then .tup [.nils,.int .i64 6] else if cU (oe l f g) m=true∨bD g m≠l then .tup [.nils,.int .i64 15] else .tup [bP l (fo f g m) true,.int .i64 0]
theorem Qo (n l k:Nat) (t d:Nat→Int) (m:Nat) (f:Nat→Nat→Int) (g:Nat→Nat) (H:aa) (hl:l≤1000) (hg:∀ i,i<m→g i<1000):cd (n+2) (.fn 47) [cg l t k d,fF m f g] H=some (Mo l m f g,H):=by
 unfold Mo
 by_cases c:40<m
 · rw[if_pos c]
   refine aL (n:=n+1) Try.func47 rfl rfl rfl (SR (n+1) l k t d m f g H) (av _) (aD (af _ _) PK (fun x hx=>(Tr.ae hx).elim)) (ag _ _) ?_
   exact wF
 · rw[if_neg c]
   obtain ⟨X,hx⟩:=NZ n l k t d m f g H (by omega) hg
   have hx':exec (bt (n+1) 47 64) (.block 0 (.loop (part Try.f47 [1,1,1,1,0,1,0,0]))) (xU l m f g 0 0) (sG l t k d (fun _=>Int.ofNat 0)::H)=some (cond (cU (oe l f g) m) (.ret,[(4,.nils),(5,.int .i64 15)],sG l t k d (X (fN (oe l f g) m 0))::H) (.normal,xU l m f g ((bD g m:Nat):Int) (Int.ofNat m)++[(21,.bool false)],sG l t k d (fo f g m)::H)):=by
    unfold xU sG
    rw[pn]
    exact hx
   refine aL (n:=n+1) Try.func47 rfl rfl rfl (Pc (n+1) l k t d (X (fN (oe l f g) m 0)) (fo f g m) m f g ((bD g m:Nat):Int) (Int.ofNat m) (cU (oe l f g) m) H) (av _) (aD (af _ _) PK (fun x hy=>fp hy hx')) (ag _ _) ?_
   simp only[pn,c5]
   have eq:cu l l=true:=by rw[gb];simp
   clear hx hx'
   generalize X (fN (oe l f g) m 0)=X at *
   generalize cU (oe l f g) m=B at *
   generalize fo f g m=Z at *
   generalize bD g m=N at *
   cases B with
   | true =>
     rw[if_pos (.inl rfl)]
     exact wF
   | false =>
     by_cases e:N=l
     · subst e
       rw[if_neg (by simp)]
       simp only[eq]
       exact wF
     · rw[if_pos (.inr e)]
       exact wF
end Go.Eng
end
