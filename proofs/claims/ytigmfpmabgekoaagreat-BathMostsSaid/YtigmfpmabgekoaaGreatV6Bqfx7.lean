/- Bath: the most, where there are no points: trees. -/
import Derived.Test.YtigmfpmabgekoaaGreatV6Bq8x7
import Derived.Test.YtigmfpmabgekoaaGreatV6Ba3x25
import Derived.Test.YtigmfpmabgekoaaGreatV6Be1x17
set_option linter.unusedVariables false
set_option linter.unusedSimpArgs false
set_option maxRecDepth 100000
section
namespace Go.Eng
open Go.Proofs
open Go.Proofs.YtigmfpmabgekoaaGreat.Known (mostS mostL most)
theorem J1 (n s l m:Nat) (y P:Nat→Int) (K:Int) (H:aa):aP (bt n 79 156) (il (tX (tX aT 81 [gY (s+1) l y] (yS 0 (.nils))) 92 [yS 0 (.nils)] (.nils)) n 0) a6 a7 (part Tryz.f79 [1,0]) (hints [(0,gY (s+1) l y),(1,.int .i64 K)]) (aH::H) =
 Tr.reqP ([AV.ptrT (some (Nat.succ s)) (Row.G [aO 7 l y]) 0]=[AV.ptrT (some (Nat.succ s)) (Row.G [aO 7 l y]) 0]) (Tr.reqP ([AV.fn (Fn.func 112) [] [AV.ptrT (some 0) (Row.G [AV.nils]) 0]]=[AV.fn (Fn.func 112) [] [AV.ptrT (some 0) (Row.G [AV.nils]) 0]]) (Tr.ok (Ex.normal,[(0,AV.ptrT (some (Nat.succ s)) (Row.G [aO 7 l y]) 0,none),(1,AV.int .i64 K,none),(6,AV.nils,none)],aH::H))):=by kernel_rfl
theorem J2 (n s l m:Nat) (y P:Nat→Int) (K:Int) (H:aa):aP (bt n 79 156) (il aT n 0) a6 a7 (part Tryz.f79 [1,1,0]) (hints [(0,gY (s+1) l y),(1,.int .i64 K),(6,.nils)]) (aH::H) =
 Tr.ok (Ex.normal,[(0,AV.ptrT (some (Nat.succ s)) (Row.G [aO 7 l y]) 0,none),(1,AV.int .i64 K,none),(6,AV.nils,none),(7,AV.map 0 0,none)],{ lock:=false,bs:=[(0,al.fmap (KK.str 2) (l7 (fun x=>false) [Int.negSucc 0,Int.ofNat 0] true) (mR (fun x=>Int.ofNat 0) [Int.negSucc 0,Int.ofNat 0] (Int.ofNat 0)) (qd false 0))] } :: H):=by kernel_rfl
theorem J3 (n s l m:Nat) (y P:Nat→Int) (K:Int) (h:List Int→Bool) (g:List Int→Int) (c:Nat) (H:aa):aP (bt n 79 156) (il aT n 0) a6 a7 (part Tryz.f79 [1,1,1,0]) (hints [(0,gY (s+1) l y),(1,.int .i64 K),(6,.nils),(7,.map 0 0)]) (⟨false,[(0,.fmap (.str 2) h g c)]⟩::H) =
 Tr.ok (Ex.normal,[(0,AV.ptrT (some (Nat.succ s)) (Row.G [aO 7 l y]) 0,none),(1,AV.int .i64 K,none),(6,AV.nils,none),(7,AV.map 0 0,none),(8,AV.map 0 1,none)],{ lock:=false,bs:=[(0,al.fmap (KK.str 2) h g c),(0,al.fmap (KK.str 2) (fun x=>false) (fun x=>Int.ofNat 0) 0)] } :: H):=by kernel_rfl
theorem J4 (n s l m:Nat) (y P:Nat→Int) (K:Int) (h:List Int→Bool) (g:List Int→Int) (c:Nat) (h2:List Int→Bool) (g2:List Int→Int) (c2:Nat) (H:aa):aP (bt n 79 156) (il aT n 0) a6 a7 (part Tryz.f79 [1,1,1,1,0]) (hints [(0,gY (s+1) l y),(1,.int .i64 K),(6,.nils),(7,.map 0 0),(8,.map 0 1)]) (dp h g c h2 g2 c2 []::H) =
 Tr.ok (Ex.normal,[(0,AV.ptrT (some (Nat.succ s)) (Row.G [aO 7 l y]) 0,none),(1,AV.int .i64 K,none),(6,AV.nils,none),(7,AV.map 0 0,none),(8,AV.map 0 1,none),(32,AV.int .i64 (Int.ofNat 0),some 1),(33,AV.int .i64 (Int.ofNat 0),some 1),(34,AV.bool false,some 1)],{ lock:=false,bs:=[(0,al.fmap (KK.str 2) h g c),(0,al.fmap (KK.str 2) h2 g2 c2)] } :: H):=by kernel_rfl
theorem J6 (n s l m:Nat) (y P:Nat→Int) (K:Int) (h:List Int→Bool) (g:List Int→Int) (c:Nat) (h2:List Int→Bool) (g2:List Int→Int) (c2:Nat) (H:aa):aP (bt n 79 156) (il aT n 0) a6 a7 (part Tryz.f79 [1,1,1,1,1,0]) (hints [(0,gY (s+1) l y),(1,.int .i64 K),(6,.nils),(7,.map 0 0),(8,.map 0 1),(32,.int .i64 (Int.ofNat 0)),(33,.int .i64 (Int.ofNat 0)),(34,.bool false)]) (dp h g c h2 g2 c2 []::H) =
 Tr.ok (Ex.normal,[(6,AV.nils,none),(7,AV.map 0 0,none),(8,AV.map 0 1,none),(17,AV.ptr 0 2 0 0,none)],{ lock:=false,bs:=[(0,al.fmap (KK.str 2) h g c),(0,al.fmap (KK.str 2) h2 g2 c2),(0,al.row (Row.I .i64 [Int.negSucc 0,Int.ofNat 0]))] } :: H):=by kernel_rfl
theorem Hc (n m:Nat) (P:Nat→Int) (h:List Int→Bool) (g:List Int→Int) (c:Nat) (h2:List Int→Bool) (g2:List Int→Int) (c2:Nat) (x y:Int) (H:aa):(Go.Proofs.YtigmfpmabgekoaaGreat.Known.mostS).zK (bt n 79 156) (il aT n 0) (hints [(6,.nils),(7,.map 0 0),(8,.map 0 1),(17,.ptr 0 2 0 0)]) (dp h g c h2 g2 c2 [eC x y]::H) =
 Tr.ok ([(6,AV.nils,none),(7,AV.map 0 0,none),(8,AV.map 0 1,none),(17,AV.ptr 0 2 0 0,none),(90,AV.map 0 0,none)],{ lock:=false,bs:=[(0,al.fmap (KK.str 2) h g c),(0,al.fmap (KK.str 2) h2 g2 c2),(0,al.row (Row.I .i64 [x,y]))] } :: H):=by kernel_rfl
theorem J9 (n m:Nat) (P:Nat→Int) (h:List Int→Bool) (g:List Int→Int) (c:Nat) (h2:List Int→Bool) (g2:List Int→Int) (c2:Nat) (b1 b2 b3:List (Nat×al)) (a b v x y:Int):(Go.Proofs.YtigmfpmabgekoaaGreat.Known.mostL).nz (bt n 79 156) (il aT n 0) a6 a7 3 4 (.agg (.I .i64 [a,b]),.int .i64 v) (hints [(6,.nils),(7,.map 4 0),(8,.map 0 1),(17,.ptr 0 2 0 0),(91,.ptr 0 3 0 0)]) (⟨false,[(0,.dead),(0,.fmap (.str 2) h2 g2 c2),eC x y,(0,.dead)]⟩::[⟨true,b1⟩,⟨true,b2⟩,⟨true,b3⟩,gR (.fmap (.str 2) h g c)]) =
 (fun (Z0:aK)=>((fun (Z1:bo)=>((fun (Z2:bo)=>((fun (Z3:bo)=>Tr.ite (cP (g [x,y]) v) (Tr.ok (Z0,[Z2,{ lock:=true,bs:=b1 },{ lock:=true,bs:=b2 },{ lock:=true,bs:=b3 },Z1])) (Tr.ite (eU v (g [x,y])) (Tr.ite (cP b y) (Tr.ok (Z0,[Z2,{ lock:=true,bs:=b1 },{ lock:=true,bs:=b2 },{ lock:=true,bs:=b3 },Z1])) (Tr.ite (eU b y) (Tr.ite (cP a x) (Tr.ok (Z0,[Z2,{ lock:=true,bs:=b1 },{ lock:=true,bs:=b2 },{ lock:=true,bs:=b3 },Z1])) (Tr.ok (Z0,[Z3,{ lock:=true,bs:=b1 },{ lock:=true,bs:=b2 },{ lock:=true,bs:=b3 },Z1]))) (Tr.ok (Z0,[Z3,{ lock:=true,bs:=b1 },{ lock:=true,bs:=b2 },{ lock:=true,bs:=b3 },Z1])))) (Tr.ok (Z0,[Z3,{ lock:=true,bs:=b1 },{ lock:=true,bs:=b2 },{ lock:=true,bs:=b3 },Z1])))) { lock:=false,bs:=[(0,al.dead),(0,al.fmap (KK.str 2) h2 g2 c2),(0,al.row (Row.I .i64 [x,y])),(0,al.dead)] })) { lock:=false,bs:=[(0,al.dead),(0,al.fmap (KK.str 2) h2 g2 c2),(0,al.row (Row.I .i64 [a,b])),(0,al.dead)] })) { lock:=true,bs:=[(0,al.fmap (KK.str 2) h g c)] })) [(6,AV.nils,none),(7,AV.map 4 0,none),(8,AV.map 0 1,none),(17,AV.ptr 0 2 0 0,none),(91,AV.ptr 0 3 0 0,none)]:=by kernel_rfl
theorem Ka (n m:Nat) (P:Nat→Int) (h:List Int→Bool) (g:List Int→Int) (c:Nat) (h2:List Int→Bool) (g2:List Int→Int) (c2:Nat) (b1 b2 b3:List (Nat×al)) (a b v x y:Int):(Go.Proofs.YtigmfpmabgekoaaGreat.Known.mostL).nz (bt n 79 156) (il aT n 0) a6 a7 3 4 (.agg (.I .i64 [a,b]),.int .i64 v) (hints [(6,.nils),(7,.map 4 0),(8,.map 0 1),(17,.ptr 0 2 0 0),(90,.map 4 0),(91,.ptr 0 3 0 0)]) (⟨false,[(0,.dead),(0,.fmap (.str 2) h2 g2 c2),eC x y,(0,.dead)]⟩::[⟨true,b1⟩,⟨true,b2⟩,⟨true,b3⟩,gR (.fmap (.str 2) h g c)]) =
 (fun (Z0:aK)=>((fun (Z1:bo)=>((fun (Z2:bo)=>((fun (Z3:bo)=>Tr.ite (cP (g [x,y]) v) (Tr.ok (Z0,[Z2,{ lock:=true,bs:=b1 },{ lock:=true,bs:=b2 },{ lock:=true,bs:=b3 },Z1])) (Tr.ite (eU v (g [x,y])) (Tr.ite (cP b y) (Tr.ok (Z0,[Z2,{ lock:=true,bs:=b1 },{ lock:=true,bs:=b2 },{ lock:=true,bs:=b3 },Z1])) (Tr.ite (eU b y) (Tr.ite (cP a x) (Tr.ok (Z0,[Z2,{ lock:=true,bs:=b1 },{ lock:=true,bs:=b2 },{ lock:=true,bs:=b3 },Z1])) (Tr.ok (Z0,[Z3,{ lock:=true,bs:=b1 },{ lock:=true,bs:=b2 },{ lock:=true,bs:=b3 },Z1]))) (Tr.ok (Z0,[Z3,{ lock:=true,bs:=b1 },{ lock:=true,bs:=b2 },{ lock:=true,bs:=b3 },Z1])))) (Tr.ok (Z0,[Z3,{ lock:=true,bs:=b1 },{ lock:=true,bs:=b2 },{ lock:=true,bs:=b3 },Z1])))) { lock:=false,bs:=[(0,al.dead),(0,al.fmap (KK.str 2) h2 g2 c2),(0,al.row (Row.I .i64 [x,y])),(0,al.dead)] })) { lock:=false,bs:=[(0,al.dead),(0,al.fmap (KK.str 2) h2 g2 c2),(0,al.row (Row.I .i64 [a,b])),(0,al.dead)] })) { lock:=true,bs:=[(0,al.fmap (KK.str 2) h g c)] })) [(6,AV.nils,none),(7,AV.map 4 0,none),(8,AV.map 0 1,none),(17,AV.ptr 0 2 0 0,none),(91,AV.ptr 0 3 0 0,none)]:=by kernel_rfl
theorem J7 (n D m:Nat) (P:Nat→Int) (h2:List Int→Bool) (g2:List Int→Int) (c2:Nat) (R:aa) (x y:Int):(Go.Proofs.YtigmfpmabgekoaaGreat.Known.mostL).xG (bt n 79 156) (il aT n 0) (hints [(6,.nils),(7,.map D 0),(8,.map 0 1),(17,.ptr 0 2 0 0),(91,.ptr 0 3 0 0)]) (⟨false,[(0,.dead),(0,.fmap (.str 2) h2 g2 c2),eC x y,(0,.dead)]⟩::R) =
 Tr.ok ([(6,AV.nils,none),(7,AV.map D 0,none),(8,AV.map 0 1,none),(17,AV.ptr 0 2 0 0,none),(91,AV.ptr 0 3 0 0,none),(92,AV.tup [AV.bool false],none),(93,AV.bool false,none)],{ lock:=false,bs:=[(0,al.dead),(0,al.fmap (KK.str 2) h2 g2 c2),(0,al.row (Row.I .i64 [x,y])),(0,al.dead)] } :: R):=by kernel_rfl
end Go.Eng
end
section
namespace Go.Eng
open Go.Proofs
noncomputable def se (m:Nat) (P:Nat→Int):au:=[(6,.nils),(7,.map 4 0),(8,.map 0 1),(17,.ptr 0 2 0 0),(91,.ptr 0 3 0 0)]
noncomputable def uo (m:Nat) (P:Nat→Int):au:=[(6,.nils),(7,.map 4 0),(8,.map 0 1),(17,.ptr 0 2 0 0),(90,.map 4 0),(91,.ptr 0 3 0 0)]
section
variable (n m:Nat) (P:Nat→Int) (h:List Int→Bool) (g:List Int→Int) (c:Nat) (h2:List Int→Bool) (g2:List Int→Int) (c2:Nat) (b1 b2 b3:List (Nat×al))
theorem Kd (x e:Int×Int):cI mL (bt n 79 156) 3 4 (o7 b1 b2 b3 h g c) (xE g e) (se m P,eL h2 g2 c2 x)=some (se m P,eL h2 g2 c2 (if tx g e x=true then e else x)):=by
 obtain ⟨x,y⟩:=x
 obtain ⟨a,b⟩:=e
 refine vZ (J9 n m P h g c h2 g2 c2 b1 b2 b3 a b (g [a,b]) x y) (aB n) (af _ _) (ag _ _) ?_
 have hb:=mc (g:=g) (x:=(a,b)) (y:=(x,y))
 dsimp only at hb
 rw[ew,ew,ew,bR,bR]
 by_cases k1:g [x,y]<g [a,b]
 · rw[decide_eq_true k1,if_pos (hb.2 (.inl k1))]
   exact Tr.aj (fun _=>Tr.ar ⟨rfl,rfl⟩) (fun hc=>by cases hc)
 · rw[decide_eq_false k1]
   refine Tr.aj (fun hc=>by cases hc) (fun _=>?_)
   by_cases k2:g [a,b]=g [x,y]
   · rw[show (g [a,b] == g [x,y])=true from beq_iff_eq.2 k2]
     refine Tr.aj (fun _=>?_) (fun hc=>by cases hc)
     by_cases k3:b<y
     · rw[decide_eq_true k3,if_pos (hb.2 (.inr ⟨k2,.inl k3⟩))]
       exact Tr.aj (fun _=>Tr.ar ⟨rfl,rfl⟩) (fun hc=>by cases hc)
     · rw[decide_eq_false k3]
       refine Tr.aj (fun hc=>by cases hc) (fun _=>?_)
       by_cases k4:b=y
       · rw[show (b == y)=true from beq_iff_eq.2 k4]
         refine Tr.aj (fun _=>?_) (fun hc=>by cases hc)
         by_cases k5:a<x
         · rw[decide_eq_true k5,if_pos (hb.2 (.inr ⟨k2,.inr ⟨k4,k5⟩⟩))]
           exact Tr.aj (fun _=>Tr.ar ⟨rfl,rfl⟩) (fun hc=>by cases hc)
         · rw[decide_eq_false k5,if_neg (fun q=>by have:=hb.1 q;omega)]
           exact Tr.aj (fun hc=>by cases hc) (fun _=>Tr.ar ⟨rfl,rfl⟩)
       · rw[show (b == y)=false from beq_eq_false_iff_ne.2 k4,if_neg (fun q=>by have:=hb.1 q;omega)]
         exact Tr.aj (fun hc=>by cases hc) (fun _=>Tr.ar ⟨rfl,rfl⟩)
   · rw[show (g [a,b] == g [x,y])=false from beq_eq_false_iff_ne.2 k2,if_neg (fun q=>by have:=hb.1 q;omega)]
     exact Tr.aj (fun hc=>by cases hc) (fun _=>Tr.ar ⟨rfl,rfl⟩)
theorem IJ (x e:Int×Int):cI mL (bt n 79 156) 3 4 (o7 b1 b2 b3 h g c) (xE g e) (uo m P,eL h2 g2 c2 x)=some (se m P,eL h2 g2 c2 (if tx g e x=true then e else x)):=by
 obtain ⟨x,y⟩:=x
 obtain ⟨a,b⟩:=e
 refine vZ (Ka n m P h g c h2 g2 c2 b1 b2 b3 a b (g [a,b]) x y) (aB n) (af _ _) (ag _ _) ?_
 have hb:=mc (g:=g) (x:=(a,b)) (y:=(x,y))
 dsimp only at hb
 rw[ew,ew,ew,bR,bR]
 by_cases k1:g [x,y]<g [a,b]
 · rw[decide_eq_true k1,if_pos (hb.2 (.inl k1))]
   exact Tr.aj (fun _=>Tr.ar ⟨rfl,rfl⟩) (fun hc=>by cases hc)
 · rw[decide_eq_false k1]
   refine Tr.aj (fun hc=>by cases hc) (fun _=>?_)
   by_cases k2:g [a,b]=g [x,y]
   · rw[show (g [a,b] == g [x,y])=true from beq_iff_eq.2 k2]
     refine Tr.aj (fun _=>?_) (fun hc=>by cases hc)
     by_cases k3:b<y
     · rw[decide_eq_true k3,if_pos (hb.2 (.inr ⟨k2,.inl k3⟩))]
       exact Tr.aj (fun _=>Tr.ar ⟨rfl,rfl⟩) (fun hc=>by cases hc)
     · rw[decide_eq_false k3]
       refine Tr.aj (fun hc=>by cases hc) (fun _=>?_)
       by_cases k4:b=y
       · rw[show (b == y)=true from beq_iff_eq.2 k4]
         refine Tr.aj (fun _=>?_) (fun hc=>by cases hc)
         by_cases k5:a<x
         · rw[decide_eq_true k5,if_pos (hb.2 (.inr ⟨k2,.inr ⟨k4,k5⟩⟩))]
           exact Tr.aj (fun _=>Tr.ar ⟨rfl,rfl⟩) (fun hc=>by cases hc)
         · rw[decide_eq_false k5,if_neg (fun q=>by have:=hb.1 q;omega)]
           exact Tr.aj (fun hc=>by cases hc) (fun _=>Tr.ar ⟨rfl,rfl⟩)
       · rw[show (b == y)=false from beq_eq_false_iff_ne.2 k4,if_neg (fun q=>by have:=hb.1 q;omega)]
         exact Tr.aj (fun hc=>by cases hc) (fun _=>Tr.ar ⟨rfl,rfl⟩)
   · rw[show (g [a,b] == g [x,y])=false from beq_eq_false_iff_ne.2 k2,if_neg (fun q=>by have:=hb.1 q;omega)]
     exact Tr.aj (fun hc=>by cases hc) (fun _=>Tr.ar ⟨rfl,rfl⟩)
theorem Az:∀ (ks:List (Int×Int)) (x:Int×Int),c7 mL (bt n 79 156) 3 4 (o7 b1 b2 b3 h g c) (ks.map (xE g)) (se m P,eL h2 g2 c2 x)=some (se m P,eL h2 g2 c2 (Ao g ks x))
 | [],x=>rfl
 | e::ks,x=>by
   show (match cI mL (bt n 79 156) 3 4 (o7 b1 b2 b3 h g c) (xE g e) (se m P,eL h2 g2 c2 x) with
    | some t=>c7 mL (bt n 79 156) 3 4 (o7 b1 b2 b3 h g c) (ks.map (xE g)) t
    | none=>none)=_
   rw[Kd]
   exact Az ks _
theorem JI (x:Int×Int):mL.last (bt n 79 156) (se m P) (eL h2 g2 c2 x::o7 b1 b2 b3 h g c)=some (se m P++[(92,.tup [.bool false]),(93,.bool false)],eL h2 g2 c2 x::o7 b1 b2 b3 h g c) :=
 xF (J7 n 4 m P h2 g2 c2 (o7 b1 b2 b3 h g c) x.1 x.2) (aB _) (Tr.ar rfl)
end
theorem Fu (n m:Nat) (P:Nat→Int) (h:List Int→Bool) (g:List Int→Int) (c:Nat) (h2:List Int→Bool) (g2:List Int→Int) (c2:Nat) (b1 b2 b3:List (Nat×al)) (x r:Int×Int) (hx:h [x.1,x.2]=true) (hr:rv h g r) :
 rA (bt n 79 156) mL 3 (o7 b1 b2 b3 h g c) (uo m P,eL h2 g2 c2 x) (.str 2) h g c (se m P++[(92,.tup [.bool false]),(93,.bool false)],eL h2 g2 c2 r):=by
 refine ⟨rfl,fun es hE vs v1 v2 v3=>?_⟩
 obtain ⟨ks,l1,l2,l3,l4⟩:=Au hE vs v3
 have cov:∀ e:Int×Int,h [e.1,e.2]=true→e ∈ ks:=fun e he=>by
  obtain ⟨_,j,j1,j2⟩:=hE.all _ he
  obtain ⟨e',he',e2⟩:=l3 j (w8 v1 v2 v3 j1) _ j2
  simp only[List.cons.injEq,and_true] at e2
  have:e=e':=Prod.ext e2.1 e2.2
  rw[this];exact he'
 obtain ⟨s1,s2⟩:=lr (g:=g) ks x
 have hb:Ao g ks x=r:=by
  refine Ap (g:=g) ?_ (s2 r (.inr (cov r hr.1)))
  refine hr.2 _ ?_
  rcases s1 with e | e
  · rw[e];exact hx
  · exact l2 _ e
 rw[l1]
 have hf:c7 mL (bt n 79 156) 3 4 (o7 b1 b2 b3 h g c) (ks.map (xE g)) (uo m P,eL h2 g2 c2 x)=some (se m P,eL h2 g2 c2 (Ao g ks x)):=by
  cases ks with
  | nil=>exact (List.not_mem_nil (cov x hx)).elim
  | cons e ks =>
    show (match cI mL (bt n 79 156) 3 4 (o7 b1 b2 b3 h g c) (xE g e) (uo m P,eL h2 g2 c2 x) with
     | some t=>c7 mL (bt n 79 156) 3 4 (o7 b1 b2 b3 h g c) (ks.map (xE g)) t
     | none=>none)=_
    rw[IJ]
    exact Az n m P h g c h2 g2 c2 b1 b2 b3 ks _
 refine ⟨_,hf,?_⟩
 rw[hb]
 exact JI n m P h g c h2 g2 c2 b1 b2 b3 r
noncomputable def jj (m:Nat) (P:Nat→Int):au:=[(6,.nils),(7,.map 0 0),(8,.map 0 1),(17,.ptr 0 2 0 0)]
noncomputable def Dk (m:Nat) (P:Nat→Int):au:=jj m P++[(91,.ptr 0 3 0 0),(92,.tup [.bool false]),(93,.bool false)]
theorem Ee (n m:Nat) (P:Nat→Int) (S:MS) (k1 k2 k3:Bool) (b1 b2 b3:List (Nat×al)) (x r:Int×Int) (hE:∃ es,nJ (.str 2) es S.h S.g S.c) (hx:S.h [x.1,x.2]=true) (hr:rv S.h S.g r) :
 gm (bt n 79 156) mS mL (jj m P) (jz S [eC x.1 x.2]::[⟨k1,b1⟩,⟨k2,b2⟩,⟨k3,b3⟩])=some (Dk m P,jz S [eC r.1 r.2,(0,.dead)]::[⟨k1,b1⟩,⟨k2,b2⟩,⟨k3,b3⟩]):=by
 have hp:cA (bt n 79 156).P (bt n 79 156).nt (bt n 79 156).call mS.ops0 mS.pre (jj m P) (jz S [eC x.1 x.2]::[⟨k1,b1⟩,⟨k2,b2⟩,⟨k3,b3⟩])=some (jj m P++[(90,.map 0 0)],jz S [eC x.1 x.2]::[⟨k1,b1⟩,⟨k2,b2⟩,⟨k3,b3⟩]):=by
  have:=bx.rk (S:=mS) (cx:=bt n 79 156) (callR:=il aT n 0) (aB _) (fr:=hints (jj m P)) (H:=jz S [eC x.1 x.2]::[⟨k1,b1⟩,⟨k2,b2⟩,⟨k3,b3⟩]) (by
   show (bx.zK _ _ _ _ _).run=_
   have:=Hc n m P S.h S.g S.c S.h2 S.g2 S.c2 x.1 x.2 [⟨k1,b1⟩,⟨k2,b2⟩,⟨k3,b3⟩]
   exact congrArg Tr.run this)
  rw[aN] at this
  exact this
 have hends:=Fu n m P S.h S.g S.c S.h2 S.g2 S.c2 b1 b2 b3 x r hx hr
 unfold gm
 rw[hp]
 show (@dite _ (∃ y,rA (bt n 79 156) mL 3 (o7 b1 b2 b3 S.h S.g S.c) (uo m P,eL S.h2 S.g2 S.c2 x) (.str 2) S.h S.g S.c y) (Classical.propDecidable _)
  (fun hx=>if (Classical.choose hx).2.bs.all (fun x=>qh 4 0 x.2) && ((jn (rH 4 0) (Classical.choose hx).1).all (fun x=>kW 4 0 x.2) && eu (ak (Classical.choose hx).2.bs 0).2) then some (jn (rH 4 0) (Classical.choose hx).1,df ((Classical.choose hx).2::[⟨k1,b1⟩,⟨k2,b2⟩,⟨k3,b3⟩]) 0 0 (0,.fmap (.str 2) S.h S.g S.c)) else none)
  (fun _=>none))=_
 have hex:∃ y,rA (bt n 79 156) mL 3 (o7 b1 b2 b3 S.h S.g S.c) (uo m P,eL S.h2 S.g2 S.c2 x) (.str 2) S.h S.g S.c y:=⟨_,hends⟩
 have hy:Classical.choose hex=(se m P++[(92,.tup [.bool false]),(93,.bool false)],eL S.h2 S.g2 S.c2 r):=by
  have hc:=Classical.choose_spec hex
  obtain ⟨es,hE⟩:=hE
  obtain ⟨s1,e1,e2⟩:=hc.2 es hE (List.range es.length) List.nodup_range (by simp) (fun j hj=>by simpa using hj)
  obtain ⟨s2,f1,f2⟩:=hends.2 es hE (List.range es.length) List.nodup_range (by simp) (fun j hj=>by simpa using hj)
  rw[e1] at f1
  obtain rfl:=Option.some.inj f1
  rw[e2] at f2
  simp only[Option.some.injEq,Prod.mk.injEq,List.cons.injEq,and_true] at f2
  exact Prod.ext f2.1 f2.2
 rw[dif_pos hex,hy]
 refine (if_pos ?_).trans ?_
 · rfl
 · rfl
end Go.Eng
end
section
namespace Go.Eng
open Go.Proofs
theorem Nd (n s l m:Nat) (y P Q:Nat→Int) (K:Int) (H:aa):aP (bt n 79 156) (il (tX (tX aT 81 [gY (s+1) l y] (yS 0 (cQ m P false))) 92 [yS 0 (cQ m P false)] (cQ m Q false)) n 0) a6 a7 (part Tryz.f79 [1,0]) (hints [(0,gY (s+1) l y),(1,.int .i64 K)]) (aH::H) =
 (fun (Z0:Row)=>((fun (Z1:List AV)=>Tr.reqP ([AV.ptrT (some (Nat.succ s)) Z0 0]=[AV.ptrT (some (Nat.succ s)) Z0 0]) (Tr.reqP (Z1=Z1) (Tr.ok (Ex.normal,[(0,AV.ptrT (some (Nat.succ s)) Z0 0,none),(1,AV.int .i64 K,none),(6,AV.slcT none (Row.M [aW.arr .i64 Q m]) 1 m false,none)],aH::H)))) [AV.fn (Fn.func 112) [] [AV.ptrT (some 0) (Row.G [AV.slcT none (Row.M [aW.arr .i64 P m]) 1 m false]) 0]])) (Row.G [AV.slcT none (Row.M [aW.arr .i64 y (bg l 7)]) 7 l false]):=by kernel_rfl
theorem Nf (n s l m:Nat) (y P:Nat→Int) (K:Int) (H:aa):aP (bt n 79 156) (il aT n 0) a6 a7 (part Tryz.f79 [1,1,0]) (hints [(0,gY (s+1) l y),(1,.int .i64 K),(6,cQ m P false)]) (aH::H) =
 Tr.ok (Ex.normal,[(0,AV.ptrT (some (Nat.succ s)) (Row.G [AV.slcT none (Row.M [aW.arr .i64 y (bg l 7)]) 7 l false]) 0,none),(1,AV.int .i64 K,none),(6,AV.slcT none (Row.M [aW.arr .i64 P m]) 1 m false,none),(7,AV.map 0 0,none)],{ lock:=false,bs:=[(0,al.fmap (KK.str 2) (l7 (fun x=>false) [Int.negSucc 0,Int.ofNat 0] true) (mR (fun x=>Int.ofNat 0) [Int.negSucc 0,Int.ofNat 0] (Int.ofNat 0)) (qd false 0))] } :: H):=by kernel_rfl
theorem Ng (n s l m:Nat) (y P:Nat→Int) (K:Int) (h:List Int→Bool) (g:List Int→Int) (c:Nat) (H:aa):aP (bt n 79 156) (il aT n 0) a6 a7 (part Tryz.f79 [1,1,1,0]) (hints [(0,gY (s+1) l y),(1,.int .i64 K),(6,cQ m P false),(7,.map 0 0)]) (⟨false,[(0,.fmap (.str 2) h g c)]⟩::H) =
 Tr.ok (Ex.normal,[(0,AV.ptrT (some (Nat.succ s)) (Row.G [AV.slcT none (Row.M [aW.arr .i64 y (bg l 7)]) 7 l false]) 0,none),(1,AV.int .i64 K,none),(6,AV.slcT none (Row.M [aW.arr .i64 P m]) 1 m false,none),(7,AV.map 0 0,none),(8,AV.map 0 1,none)],{ lock:=false,bs:=[(0,al.fmap (KK.str 2) h g c),(0,al.fmap (KK.str 2) (fun x=>false) (fun x=>Int.ofNat 0) 0)] } :: H):=by kernel_rfl
theorem Nl (n m v k:Nat) (P b b':Nat→Int) (h:List Int→Bool) (g:List Int→Int) (c:Nat) (h2:List Int→Bool) (g2:List Int→Int) (c2:Nat) (x y:Int) (H:aa):aP (bt n 79 156) (il (iU aT 94 (Ob v k b b' h g c h2 g2 c2 (-1) 0 H)) n 0) (eT a6 8 (jK m P .nils (g [x,y])) (dp h g c h2 g2 c2 [eC x y,(0,.dead),eC (-1) 0]::H) (.ok (.normal,hints (jK m P (.slc 0 5 v 0 1 k none) (g [x,y])++[(136,.bool false)]),dp h g c h2 g2 c2 [eC (-1) 0,(0,.dead),eC (-1) 0,(v,.row (.M [.arr .i64 b k]))]::H))) a7 (part Tryz.f79 [1,1,1,1,1,1,1]) (hints (wZ m P)) (dp h g c h2 g2 c2 [eC x y,(0,.dead)]::H) =
 (fun (Z0:Nat×al)=>((fun (Z1:au)=>((fun (Z2:bo)=>((fun (Z3:bo)=>Tr.reqP (Z1=Z1∧Z3::H=Z3::H) (Tr.reqP ([AV.slc 0 5 v 0 1 k none]=[AV.slc 0 5 v 0 1 k none]∧Z2::H=Z2::H) (Tr.ok (Ex.ret,[(4,AV.int .i64 (g [x,y]),none),(5,AV.slc 0 5 v 0 1 k none,none)],{ lock:=false,bs:=[(0,al.fmap (KK.str 2) h g c),(0,al.fmap (KK.str 2) h2 g2 c2),Z0,(0,al.dead),Z0,(v,al.row (Row.M [aW.arr .i64 b' k]))] } :: H)))) { lock:=false,bs:=[(0,al.fmap (KK.str 2) h g c),(0,al.fmap (KK.str 2) h2 g2 c2),(0,al.row (Row.I .i64 [x,y])),(0,al.dead),Z0] })) { lock:=false,bs:=[(0,al.fmap (KK.str 2) h g c),(0,al.fmap (KK.str 2) h2 g2 c2),Z0,(0,al.dead),Z0,(v,al.row (Row.M [aW.arr .i64 b k]))] })) [(6,AV.slcT none (Row.M [aW.arr .i64 P m]) 1 m false),(8,AV.map 0 1),(17,AV.ptr 0 2 0 0),(21,AV.int .i64 (g [x,y])),(22,AV.nils),(23,AV.ptr 0 4 0 0)])) (0,al.row (Row.I .i64 [Int.negSucc 0,Int.ofNat 0])):=by kernel_rfl
theorem Nn (n m:Nat) (P:Nat→Int) (h:List Int→Bool) (g:List Int→Int) (c:Nat) (h2:List Int→Bool) (g2:List Int→Int) (c2:Nat) (x y:Int) (H:aa):aP (bt n 79 156) (il (tX aT 94 [.nils] (.tup [])) n 0) (eT a6 8 (jK m P .nils (g [x,y])) (dp h g c h2 g2 c2 [eC x y,(0,.dead),eC (-1) 0]::H) (.ok (.normal,hints (jK m P .nils (g [x,y])++[(136,.bool false)]),dp h g c h2 g2 c2 [eC (-1) 0,(0,.dead),eC (-1) 0]::H))) a7 (part Tryz.f79 [1,1,1,1,1,1,1]) (hints (wZ m P)) (dp h g c h2 g2 c2 [eC x y,(0,.dead)]::H) =
 (fun (Z0:bo)=>((fun (Z1:au)=>Tr.reqP (Z1=Z1∧Z0::H=Z0::H) (Tr.reqP ([AV.nils]=[AV.nils]) (Tr.ok (Ex.ret,[(4,AV.int .i64 (g [x,y]),none),(5,AV.nils,none)],{ lock:=false,bs:=[(0,al.fmap (KK.str 2) h g c),(0,al.fmap (KK.str 2) h2 g2 c2),(0,al.row (Row.I .i64 [Int.negSucc 0,Int.ofNat 0])),(0,al.dead),(0,al.row (Row.I .i64 [Int.negSucc 0,Int.ofNat 0]))] } :: H)))) [(6,AV.slcT none (Row.M [aW.arr .i64 P m]) 1 m false),(8,AV.map 0 1),(17,AV.ptr 0 2 0 0),(21,AV.int .i64 (g [x,y])),(22,AV.nils),(23,AV.ptr 0 4 0 0)])) { lock:=false,bs:=[(0,al.fmap (KK.str 2) h g c),(0,al.fmap (KK.str 2) h2 g2 c2),(0,al.row (Row.I .i64 [x,y])),(0,al.dead),(0,al.row (Row.I .i64 [Int.negSucc 0,Int.ofNat 0]))] }:=by kernel_rfl
end Go.Eng
end
section
namespace Go.Eng
open Go.Proofs
open Go.Proofs.YtigmfpmabgekoaaGreat.Known (mostS mostL most navB bd79)
theorem Nm (n:Nat) (h:List Int→Bool) (g:List Int→Int) (c:Nat) (h2:List Int→Bool) (g2:List Int→Int) (c2:Nat) (H:aa):aP (bt n 79 156) (il (tX aT 94 [.nils] (.tup [])) n 0) a6 a7 (part Tryz.f79 [1,1,1,1,1,1,1]) (hints [(6,.nils),(7,.map 0 0),(8,.map 0 1),(17,.ptr 0 2 0 0),(91,.ptr 0 3 0 0),(92,.tup [.bool false]),(93,.bool false)]) (dp h g c h2 g2 c2 [eC (-1) 0,(0,.dead)]::H) =
 Tr.ite (dQ (fB (eU (Int.negSucc 0) (Int.negSucc 0)) (eU (Int.ofNat 0) (Int.ofNat 0)))) Tr.bad (Tr.reqP ([AV.nils]=[AV.nils]) (Tr.ok (Ex.ret,[(4,AV.int .i64 (g [Int.negSucc 0,Int.ofNat 0]),none),(5,AV.nils,none)],{ lock:=false,bs:=[(0,al.fmap (KK.str 2) h g c),(0,al.fmap (KK.str 2) h2 g2 c2),(0,al.row (Row.I .i64 [Int.negSucc 0,Int.ofNat 0])),(0,al.dead),(0,al.row (Row.I .i64 [Int.negSucc 0,Int.ofNat 0]))] } :: H))):=by kernel_rfl
theorem Of {n s l:Nat} {y:Nat→Int} {K:Int} {H:aa} {fr:au} {lv:bo} {V:AV}
 (hp:fM (bt n 79 156) mostS mostL most.suf most.pre [(0,gY (s+1) l y),(1,.int .i64 K)] (aH::H)=some (.ret,fr,lv::H))
 (hv:(match dZ Tryz.prog fr (lv::H) Tryz.f79.results.toList with
   | some vs=>some (cG lv.bs 5 (one vs),H)
   | none=>none)=some (V,H)):cd (n+1) (.fn 79) [gY s l y,.int .i64 K] H=some (V,H):=by
 have e156:Tryz.f79.ntmps=156:=by kernel_rfl
 have ho:nv (cd n) 79 [gY s l y,.int .i64 K] H=some (V,H):=by
  show sR Tryz.prog KtB.kt 100000 most (cd n) [gY s l y,.int .i64 K] H=_
  unfold sR
  rw[show Tryz.prog.funcs[most.f]?=some Tryz.f79 from Tryz.func79]
  dsimp only
  rw[if_pos (by rw[e156];rfl),e156]
  rw[show fM (⟨Tryz.prog,cd n,100000,most.f,156,KtB.kt most.f,none⟩:Cx) most.S most.L most.suf most.pre (dC 0 [gY s l y,.int .i64 K]) (⟨false,[]⟩::H)=_ from hp]
  exact hv
 unfold cd
 rw[show cC Tryz.prog nv KtB.kt 100000 (n+1) (.fn 79) [gY s l y,.int .i64 K] H=(match nv (cd n) 79 [gY s l y,.int .i64 K] H with
  | some r=>some r
  | none=>_) from rfl,ho]
theorem fe {cx:Cx} {S:bx} {L:a8} {suf c:Code} {r:List Code} {fr fr2:au} {H H2:aa} (h:exec cx c fr H=some (.normal,fr2,H2)):fM cx S L suf (c::r) fr H=fM cx S L suf r fr2 H2:=by
 show (match cS cx c fr H with
  | some (.normal,fr,H)=>fM cx S L suf r fr H
  | x=>x)=_
 rw[dj,h]
theorem D6 {cx:Cx} {S:bx} {L:a8} {suf:Code} {fr fr2:au} {H H2:aa} (h:dN cx S L fr H=some (fr2,H2)):fM cx S L suf [] fr H=exec cx suf fr2 H2:=by
 show (match dN cx S L fr H with
  | some (fr,H)=>cS cx suf fr H
  | none=>none)=_
 rw[h]
 exact dj _ _ _ _
end Go.Eng
end
section
namespace Go.Eng
open Go.Proofs
open Go.Proofs.YtigmfpmabgekoaaGreat.Known (mostS mostL most navB bd79)
theorem qE {cx:Cx} {S:bx} {L:a8} {fr fr1:au} {H:aa} {l1:bo} {r1:aa} {i:Nat} {q:KK} {h:List Int→Bool} {g:List Int→Int} {c:Nat} (hp:cA cx.P cx.nt cx.call S.ops0 S.pre fr H=some (fr1,l1::r1)) (hf:bh fr1 S.m=.map 0 i) (hg:ao (l1::r1) 0 i=(0,.fmap q h g c)):lZ cx S L fr H=none:=by
 have a1:l5 cx S L fr H=none:=by
  unfold l5
  rw[hp];dsimp only;rw[hf];simp only[hg]
 have a2:jX cx S L fr H=none:=by
  unfold jX
  rw[hp];dsimp only;rw[hf]
 have a3:jY cx S L fr H=none:=by
  unfold jY
  rw[hp];dsimp only;rw[hf]
 unfold lZ jW
 rw[a1,a2,a3]
theorem J5 (n m:Nat) (P:Nat→Int) (S:MS) (H:aa) (x:Int×Int):cA (bt n 79 156).P (bt n 79 156).nt (bt n 79 156).call mostS.ops0 mostS.pre (mJ m P) (jz S [eC x.1 x.2]::H)=some (mJ m P++[(90,.map 0 0)],jz S [eC x.1 x.2]::H):=by
 have:=bx.rk (S:=mS) (cx:=bt n 79 156) (callR:=il aT n 0) (aB _) (fr:=hints (mJ m P)) (H:=jz S [eC x.1 x.2]::H) (by
  show (bx.zK _ _ _ _ _).run=_
  have:=J8 n m P S.h S.g S.c S.h2 S.g2 S.c2 x.1 x.2 H
  exact congrArg Tr.run this)
 rw[aN] at this
 exact this
theorem IG (n m:Nat) (P:Nat→Int) (S:MS) (H:aa) (x:Int×Int):cA (bt n 79 156).P (bt n 79 156).nt (bt n 79 156).call mostS.ops0 mostS.pre (jj m P) (jz S [eC x.1 x.2]::H)=some (jj m P++[(90,.map 0 0)],jz S [eC x.1 x.2]::H):=by
 have:=bx.rk (S:=mS) (cx:=bt n 79 156) (callR:=il aT n 0) (aB _) (fr:=hints (jj m P)) (H:=jz S [eC x.1 x.2]::H) (by
  show (bx.zK _ _ _ _ _).run=_
  have:=Hc n m P S.h S.g S.c S.h2 S.g2 S.c2 x.1 x.2 H
  exact congrArg Tr.run this)
 rw[aN] at this
 exact this
theorem DR:(⟨false,[(0,al.fmap (KK.str 2) (l7 (fun x=>false) [Int.negSucc 0,Int.ofNat 0] true) (mR (fun x=>Int.ofNat 0) [Int.negSucc 0,Int.ofNat 0] (Int.ofNat 0)) (qd false 0)),(0,al.fmap (KK.str 2) (fun x=>false) (fun x=>Int.ofNat 0) 0)]⟩:bo)=jz cF []:=by
 rw[oT,oU,rS];rfl
section
variable {l K:Nat} {z:Nat→Int} (h:bY l z=0) (hK:K≤15)
theorem No (n m:Nat) (P:Nat→Int) (S:MS) (k:Nat) (p:Int) (H:aa) (hk:k≤1000) (hm:m≤1000) (htr:∀ j,j<k→0≤nH (fun q i=>S.g2 [q,(i:Int)]) k p j∧nH (fun q i=>S.g2 [q,(i:Int)]) k p j<m) (hend:nH (fun q i=>S.g2 [q,(i:Int)]) k p k=-1) :
 ∃ fr lv,exec (bt (n+2) 79 156) (part Tryz.f79 [1,1,1,1,1,1,1]) (wZ m P) (jz S [eC p (k:Nat),(0,.dead)]::H)=some (.ret,fr,lv::H)∧(match dZ Tryz.prog fr (lv::H) Tryz.f79.results.toList with
  | some vs=>some (cG lv.bs 5 (one vs),H)
  | none=>none)=some (.tup [.int .i64 (S.g [p,(k:Int)]),dA (pZ (Br P (fun q i=>S.g2 [q,(i:Int)]) k p) k).reverse],H):=by
 have hx:=MP (n+2) m P S k p (S.g [p,(k:Int)]) H hk hm htr hend
 have hl:=kL (Br P (fun q i=>S.g2 [q,(i:Int)]) k p) k
 generalize pZ (Br P (fun q i=>S.g2 [q,(i:Int)]) k p) k=L at *
 cases L with
 | nil =>
   obtain ⟨x,h1,rfl⟩:=az (Q:=fun x=>x=(.ret,[(4,.int .i64 (S.g [p,(k:Int)])),(5,.nils)],(dp S.h S.g S.c S.h2 S.g2 S.c2 [eC (-1) 0,(0,.dead),eC (-1) 0]:bo)::H)) (Nn (n+2) m P S.h S.g S.c S.h2 S.g2 S.c2 p (k:Nat) H) (cY _ (n+2) (dz (bp _) (fun H=>Ji n H))) (bu (af _ _) Je (fun x h=>by rw[← Tr.ab h];simp only[fz.st,aN];exact hx)) (ag _ _) (Tr.aF ⟨rfl,rfl⟩ (Tr.aF rfl (Tr.ar rfl)))
   exact ⟨_,_,h1,by kernel_rfl⟩
 | cons a r =>
   have hk1:k=r.length+1:=by simpa using hl.symm
   have h94:=fun H=>OI (n+1) r.length (r.length+1) (aL (a::r)) S.h S.g S.c S.h2 S.g2 S.c2 (-1) 0 H (by omega) (by omega)
   have hrv:=Gw (a::r)
   simp only[List.length_cons] at hrv
   rw[hrv] at h94
   have hlr:(a::r).reverse.length=r.length+1:=by simp
   generalize (a::r).reverse=R at *
   cases R with
   | nil=>simp at hlr
   | cons a2 r2 =>
     simp only[List.length_cons,Nat.add_right_cancel_iff] at hlr
     obtain ⟨x,h1,rfl⟩:=az (Q:=fun x=>x=(.ret,[(4,.int .i64 (S.g [p,(k:Int)])),(5,.slc 0 5 r.length 0 1 (r.length+1) none)],(dp S.h S.g S.c S.h2 S.g2 S.c2 [eC (-1) 0,(0,.dead),eC (-1) 0,(r.length,.row (.M [.arr .i64 (aL (a2::r2)) (r.length+1)]))]:bo)::H)) (Nl (n+2) m r.length (r.length+1) P (aL (a::r)) (aL (a2::r2)) S.h S.g S.c S.h2 S.g2 S.c2 p (k:Nat) H) (cY _ (n+2) (ll (bp _) (fun args G x hx=>by
      unfold Ob at hx
      obtain ⟨⟨rfl,rfl⟩,h2⟩:=Tr.dO hx
      rw[← Tr.ab h2]
      exact h94 H))) (bu (af _ _) Je (fun x h=>by rw[← Tr.ab h];simp only[fz.st,aN];exact hx)) (ag _ _) (Tr.aF ⟨rfl,rfl⟩ (Tr.aF ⟨rfl,rfl⟩ (Tr.ar rfl)))
     refine ⟨_,_,h1,?_⟩
     rw[← hlr]
     have hres:dZ Tryz.prog [(4,.int .i64 (S.g [p,(k:Int)])),(5,.slc 0 5 r2.length 0 1 (r2.length+1) none)] ((dp S.h S.g S.c S.h2 S.g2 S.c2 [eC (-1) 0,(0,.dead),eC (-1) 0,(r2.length,.row (.M [.arr .i64 (aL (a2::r2)) (r2.length+1)]))]:bo)::H) Tryz.f79.results.toList=some [.int .i64 (S.g [p,(k:Int)]),.slc 0 5 r2.length 0 1 (r2.length+1) none]:=by kernel_rfl
     rw[hres]
     show some (cG _ 5 (.tup [_,_]),H)=_
     simp[cG,ak,dp,eC,Row.sub,Row.len,ay,aG,fw,dA]
end
end Go.Eng
end
section
namespace Go.Eng
open Go.Proofs
open Go.Proofs.YtigmfpmabgekoaaGreat.Known (mostS mostL most navB bd79)
theorem JW:most.pre=[part Tryz.f79 [0],part Tryz.f79 [1,0],part Tryz.f79 [1,1,0],part Tryz.f79 [1,1,1,0],part Tryz.f79 [1,1,1,1,0],part Tryz.f79 [1,1,1,1,1,0]]:=by kernel_rfl
theorem JX:most.suf=part Tryz.f79 [1,1,1,1,1,1,1]:=by kernel_rfl
theorem Gx {l:Nat} {z P:Nat→Int} (hP:∀ i,i<(cK l z).length→P i=(cK l z).getD i 0):pZ P (cK l z).length=cK l z:=by
 refine List.ext_getElem (kL _ _) (fun i h1 h2=>?_)
 have:=hP i h2
 rw[List.getD_eq_getElem?_getD,List.getElem?_eq_getElem h2] at this
 simp only[Option.getD_some] at this
 rw[← this]
 simp[pZ]
theorem Dy {t:nI} (n:Nat) (h:t.Ok (cd n)):(il t n 0).Ok (cd n):=cY _ n h
section
variable {l K:Nat} {z:Nat→Int} (h:bY l z=0) (hK:K≤15)
include h hK
theorem N9:∃ x:Int×List Int,Mo l z K x.1 x.2∧∀ (n s:Nat) (k1 k2 k3:Bool) (b1 b2 b3:List (Nat×al)),cd (n+9) (.fn 79) [gY s l (oY z l),.int .i64 (K:Int)] [⟨k1,b1⟩,⟨k2,b2⟩,⟨k3,b3⟩]=some (.tup [.int .i64 x.1,dA x.2],[⟨k1,b1⟩,⟨k2,b2⟩,⟨k3,b3⟩]):=by
 obtain ⟨P0,hP0,h81⟩:=OD l z h
 have hm14:=Gm h
 have h92:=fun n H=>OG n 0 (cK l z).length P0 H (by omega)
 rw[Gx hP0] at h92
 have hQ:∀ i,i<(cK l z).length→aL (cK l z) i=(cK l z).getD i 0:=fun i _=>by rw[gx]
 obtain ⟨p,k,hr,hk,htr,hend,hmo⟩:=JV (K:=K) h rfl hQ
 refine ⟨(_,_),hmo,fun n s k1 k2 k3 b1 b2 b3=>?_⟩
 have hE:=HU (a:=dX l z (aL (cK l z))) (K:=K) (cK l z).length
 have h00:(fy (dX l z (aL (cK l z))) K (cK l z).length cF).h [-1,0]=true:=((zW (a:=dX l z (aL (cK l z))) (K:=K) (cK l z).length).2.1).1
 have hrev:=GQ (aL (cK l z)) (fun q i=>(fy (dX l z (aL (cK l z))) K (cK l z).length cF).g2 [q,(i:Int)]) k p
 have hl79:=MO (n+5) s l (cK l z).length z (aL (cK l z)) [⟨k1,b1⟩,⟨k2,b2⟩,⟨k3,b3⟩] K h hK hm14
 generalize hQQ:cK l z=Q at *
 cases Q with
 | nil =>
   rw[show ([]:List Int).length=0 from rfl] at *
   have hk0:k=0:=by
    rcases Nat.eq_zero_or_pos k with e | e
    · exact e
    · have:=htr 0 e;omega
   subst hk0
   have hp1:p=-1:=hend
   subst hp1
   rw[if_pos rfl] at h81 h92
   obtain ⟨x,xa,rfl⟩:=az (Q:=fun x=>x=(.normal,[(0,gY (s+1) l (oY z l)),(1,.int .i64 (K:Int))],aH::[⟨k1,b1⟩,⟨k2,b2⟩,⟨k3,b3⟩])) (J0 (n+8) s l (oY z l) (K:Int) [⟨k1,b1⟩,⟨k2,b2⟩,⟨k3,b3⟩]) (aB _) (af _ _) (ag _ _) (Tr.ar rfl)
   obtain ⟨x,xb,rfl⟩:=az (Q:=fun x=>x=(.normal,[(0,gY (s+1) l (oY z l)),(1,.int .i64 (K:Int)),(6,.nils)],aH::[⟨k1,b1⟩,⟨k2,b2⟩,⟨k3,b3⟩])) (J1 (n+8) s l 0 (oY z l) P0 (K:Int) [⟨k1,b1⟩,⟨k2,b2⟩,⟨k3,b3⟩]) (Dy _ (dz (dz (bp _) (fun H=>h81 n (s+1) H)) (fun H=>h92 (n+4) H))) (af _ _) (ag _ _) (Tr.aF rfl (Tr.aF rfl (Tr.ar rfl)))
   obtain ⟨x,xc,rfl⟩:=az (Q:=fun x=>x=(.normal,[(0,gY (s+1) l (oY z l)),(1,.int .i64 (K:Int)),(6,.nils),(7,.map 0 0)],_::[⟨k1,b1⟩,⟨k2,b2⟩,⟨k3,b3⟩])) (J2 (n+8) s l 0 (oY z l) P0 (K:Int) [⟨k1,b1⟩,⟨k2,b2⟩,⟨k3,b3⟩]) (aB _) (af _ _) (ag _ _) (Tr.ar rfl)
   obtain ⟨x,xd,rfl⟩:=az (Q:=fun x=>x=(.normal,[(0,gY (s+1) l (oY z l)),(1,.int .i64 (K:Int)),(6,.nils),(7,.map 0 0),(8,.map 0 1)],_::[⟨k1,b1⟩,⟨k2,b2⟩,⟨k3,b3⟩])) (J3 (n+8) s l 0 (oY z l) P0 (K:Int) _ _ _ [⟨k1,b1⟩,⟨k2,b2⟩,⟨k3,b3⟩]) (aB _) (af _ _) (ag _ _) (Tr.ar rfl)
   rw[DR] at xd
   obtain ⟨x,xe,rfl⟩:=az (Q:=fun x=>x=(.normal,[(0,gY (s+1) l (oY z l)),(1,.int .i64 (K:Int)),(6,.nils),(7,.map 0 0),(8,.map 0 1),(32,.int .i64 (Int.ofNat 0)),(33,.int .i64 (Int.ofNat 0)),(34,.bool false)],jz cF []::[⟨k1,b1⟩,⟨k2,b2⟩,⟨k3,b3⟩])) (J4 (n+8) s l 0 (oY z l) P0 (K:Int) cF.h cF.g cF.c cF.h2 cF.g2 cF.c2 [⟨k1,b1⟩,⟨k2,b2⟩,⟨k3,b3⟩]) (aB _) (af _ _) (ag _ _) (Tr.ar rfl)
   obtain ⟨x,xf,rfl⟩:=az (Q:=fun x=>x=(.normal,jj 0 P0,jz cF [eC (-1) 0]::[⟨k1,b1⟩,⟨k2,b2⟩,⟨k3,b3⟩])) (J6 (n+8) s l 0 (oY z l) P0 (K:Int) cF.h cF.g cF.c cF.h2 cF.g2 cF.c2 [⟨k1,b1⟩,⟨k2,b2⟩,⟨k3,b3⟩]) (aB _) (af _ _) (ag _ _) (Tr.ar rfl)
   have xr:dN (bt (n+8) 79 156) mostS mostL (jj 0 P0) (jz cF [eC (-1) 0]::[⟨k1,b1⟩,⟨k2,b2⟩,⟨k3,b3⟩])=some (Dk 0 P0,jz cF [eC (-1) 0,(0,.dead)]::[⟨k1,b1⟩,⟨k2,b2⟩,⟨k3,b3⟩]):=by
    unfold dN
    rw[qE (IG (n+8) 0 P0 cF _ (-1,0)) rfl rfl]
    exact Ee (n+8) 0 P0 cF k1 k2 k3 b1 b2 b3 (-1,0) (-1,0) hE h00 hr
   obtain ⟨x,xs,rfl⟩:=az (Q:=fun x=>x=(.ret,[(4,.int .i64 (cF.g [-1,0])),(5,.nils)],(dp cF.h cF.g cF.c cF.h2 cF.g2 cF.c2 [eC (-1) 0,(0,.dead),eC (-1) 0]:bo)::[⟨k1,b1⟩,⟨k2,b2⟩,⟨k3,b3⟩])) (Nm (n+8) cF.h cF.g cF.c cF.h2 cF.g2 cF.c2 [⟨k1,b1⟩,⟨k2,b2⟩,⟨k3,b3⟩]) (Dy _ (dz (bp _) (fun H=>Ji (n+6) H))) (af _ _) (ag _ _) (by
    rw[bR,bR]
    exact Tr.aj (fun hc=>by
     have:dQ (fB true true)=true:=hc
     simp (disch:=omega) only[nV,nW] at this) (fun _=>Tr.aF rfl (Tr.ar rfl)))
   refine Of (n:=n+8) (fr:=[(4,.int .i64 (cF.g [-1,0])),(5,.nils)]) (lv:=dp cF.h cF.g cF.c cF.h2 cF.g2 cF.c2 [eC (-1) 0,(0,.dead),eC (-1) 0]) ?_ ?_
   · rw[JW,JX]
     exact (fe xa).trans ((fe xb).trans ((fe xc).trans ((fe xd).trans ((fe xe).trans ((fe xf).trans ((D6 xr).trans xs))))))
   · kernel_rfl
 | cons a r =>
   have e0:¬(a::r).length=0:=by simp
   rw[if_neg e0] at h81 h92
   have hdA:dA (a::r)=cQ (a::r).length (aL (a::r)) false:=rfl
   rw[hdA] at h92
   generalize (a::r).length=m at *
   generalize aL (a::r)=P at *
   generalize fy (dX l z P) K m cF=S at *
   obtain ⟨x,xa,rfl⟩:=az (Q:=fun x=>x=(.normal,[(0,gY (s+1) l (oY z l)),(1,.int .i64 (K:Int))],aH::[⟨k1,b1⟩,⟨k2,b2⟩,⟨k3,b3⟩])) (J0 (n+8) s l (oY z l) (K:Int) [⟨k1,b1⟩,⟨k2,b2⟩,⟨k3,b3⟩]) (aB _) (af _ _) (ag _ _) (Tr.ar rfl)
   obtain ⟨x,xb,rfl⟩:=az (Q:=fun x=>x=(.normal,[(0,gY (s+1) l (oY z l)),(1,.int .i64 (K:Int)),(6,cQ m P false)],aH::[⟨k1,b1⟩,⟨k2,b2⟩,⟨k3,b3⟩])) (Nd (n+8) s l m (oY z l) P0 P (K:Int) [⟨k1,b1⟩,⟨k2,b2⟩,⟨k3,b3⟩]) (Dy _ (dz (dz (bp _) (fun H=>h81 n (s+1) H)) (fun H=>h92 (n+4) H))) (af _ _) (ag _ _) (Tr.aF rfl (Tr.aF rfl (Tr.ar rfl)))
   obtain ⟨x,xc,rfl⟩:=az (Q:=fun x=>x=(.normal,[(0,gY (s+1) l (oY z l)),(1,.int .i64 (K:Int)),(6,cQ m P false),(7,.map 0 0)],_::[⟨k1,b1⟩,⟨k2,b2⟩,⟨k3,b3⟩])) (Nf (n+8) s l m (oY z l) P (K:Int) [⟨k1,b1⟩,⟨k2,b2⟩,⟨k3,b3⟩]) (aB _) (af _ _) (ag _ _) (Tr.ar rfl)
   obtain ⟨x,xd,rfl⟩:=az (Q:=fun x=>x=(.normal,G3 s l m (oY z l) P (K:Int),_::[⟨k1,b1⟩,⟨k2,b2⟩,⟨k3,b3⟩])) (Ng (n+8) s l m (oY z l) P (K:Int) _ _ _ [⟨k1,b1⟩,⟨k2,b2⟩,⟨k3,b3⟩]) (aB _) (af _ _) (ag _ _) (Tr.ar rfl)
   rw[DR] at xd
   obtain ⟨x,xe,rfl⟩:=az (Q:=fun x=>x=(.normal,sc s l m (oY z l) P K (Int.ofNat m)++[(34,.bool false)],jz S []::[⟨k1,b1⟩,⟨k2,b2⟩,⟨k3,b3⟩])) (M8 (n+8) s l m (oY z l) P (K:Int) cF.h cF.g cF.c cF.h2 cF.g2 cF.c2 S.h S.g S.c S.h2 S.g2 S.c2 [⟨k1,b1⟩,⟨k2,b2⟩,⟨k3,b3⟩]) (aB _) (bu (af _ _) Lm (fun x h=>by rw[← Tr.ab h];simp only[fz.st,aN];exact hl79)) (ag _ _) (Tr.aF ⟨rfl,rfl⟩ (Tr.ar rfl))
   obtain ⟨x,xf,rfl⟩:=az (Q:=fun x=>x=(.normal,mJ m P,jz S [eC (-1) 0]::[⟨k1,b1⟩,⟨k2,b2⟩,⟨k3,b3⟩])) (M9 (n+8) s l m (oY z l) P (K:Int) S.h S.g S.c S.h2 S.g2 S.c2 [⟨k1,b1⟩,⟨k2,b2⟩,⟨k3,b3⟩]) (aB _) (af _ _) (ag _ _) (Tr.ar rfl)
   have xr:dN (bt (n+8) 79 156) mostS mostL (mJ m P) (jz S [eC (-1) 0]::[⟨k1,b1⟩,⟨k2,b2⟩,⟨k3,b3⟩])=some (wZ m P,jz S [eC p (k:Nat),(0,.dead)]::[⟨k1,b1⟩,⟨k2,b2⟩,⟨k3,b3⟩]):=by
    unfold dN
    rw[qE (J5 (n+8) m P S _ (-1,0)) rfl rfl]
    exact Gq (n+8) m P S k1 k2 k3 b1 b2 b3 (-1,0) (p,(k:Int)) hE h00 hr
   obtain ⟨fr,lv,xs,xv⟩:=No (n+6) m P S k p [⟨k1,b1⟩,⟨k2,b2⟩,⟨k3,b3⟩] (by omega) (by omega) htr hend
   rw[show (pZ (Br P (fun q i=>S.g2 [q,(i:Int)]) k p) k).reverse=yR P (fun q i=>S.g2 [q,(i:Int)]) k p from hrev] at xv
   refine Of (n:=n+8) (fr:=fr) (lv:=lv) ?_ xv
   rw[JW,JX]
   exact (fe xa).trans ((fe xb).trans ((fe xc).trans ((fe xd).trans ((fe xe).trans ((fe xf).trans ((D6 xr).trans xs))))))
end
end Go.Eng
end
section
namespace Go.Eng
open Go.Proofs
noncomputable def GZ (l:Nat) (y:Nat→Int):AV:=.ptrT (some 0) (.G [aO 7 l y]) 0
noncomputable def K7 (B W:AV) (q M:Int) (args:List AV) (H:aa):Tr (AV×aa) :=
 match H with
 | [⟨_,_⟩,⟨_,_⟩,⟨_,_⟩]=>.reqP (args=[B,.int .i64 q]) (.ok (.tup [.int .i64 M,W],H))
 | _=>.bad
theorem QR (n l:Nat) (z y:Nat→Int) (q:Int) (H:aa):bK Tryz.prog (cd n) 100000 78 Tryz.f78 (KtB.kt 78) (il (tX aT 52 [aO 5 l z] (.tup [GZ l y,.int .i64 0])) n 0) a6 a7 [(aO 5 l z,none),(.int .i64 q,none)] H =
 Tr.reqP ([aO 5 l z]=[aO 5 l z]) (Tr.ite (dQ (eU (Int.ofNat 0) (Int.ofNat 0))) (Tr.ok ((AV.tup [AV.nilp,AV.int .i64 (Int.ofNat 0)],none),H)) (Tr.ite (cP q (Int.ofNat 0)) (Tr.ok ((AV.tup [AV.nilp,AV.int .i64 (Int.ofNat 2)],none),H)) (Tr.ite (cP (Int.ofNat 14) q) (Tr.ok ((AV.tup [AV.nilp,AV.int .i64 (Int.ofNat 2)],none),H)) (Tr.ok ((AV.tup [AV.ptrT (some 0) (Row.G [aO 7 l y]) 0,AV.int .i64 (Int.ofNat 0)],none),H))))):=by kernel_rfl
theorem NL (n l:Nat) (z:Nat→Int) (q e:Int) (H:aa):bK Tryz.prog (cd n) 100000 78 Tryz.f78 (KtB.kt 78) (il (tX aT 52 [aO 5 l z] (.tup [.nilp,.int .i64 e])) n 0) a6 a7 [(aO 5 l z,none),(.int .i64 q,none)] H =
 Tr.reqP ([aO 5 l z]=[aO 5 l z]) (Tr.ite (dQ (eU e (Int.ofNat 0))) (Tr.ok ((AV.tup [AV.nilp,AV.int .i64 e],none),H)) (Tr.ite (cP q (Int.ofNat 0)) (Tr.ok ((AV.tup [AV.nilp,AV.int .i64 (Int.ofNat 2)],none),H)) (Tr.ite (cP (Int.ofNat 14) q) (Tr.ok ((AV.tup [AV.nilp,AV.int .i64 (Int.ofNat 2)],none),H)) (Tr.ok ((AV.tup [AV.nilp,AV.int .i64 (Int.ofNat 0)],none),H))))):=by kernel_rfl
theorem NA (n l k:Nat) (z y b:Nat→Int) (q M:Int) (k1 k2:Bool) (b1 b2:List (Nat×al)):bK Tryz.prog (cd n) 100000 36 Tryz.f36 (KtB.kt 36) (il (iU (tX aT 78 [aO 5 l z,.int .i64 q] (.tup [GZ l y,.int .i64 0])) 79 (K7 (GZ l y) (cQ k b false) q M)) n 0) a6 a7 [(aO 5 l z,none),(.int .i64 q,none)] [⟨k1,b1⟩,⟨k2,b2⟩] =
 Tr.reqP ([aO 5 l z,AV.int .i64 q]=[aO 5 l z,AV.int .i64 q]) (Tr.ite (dQ (eU (Int.ofNat 0) (Int.ofNat 0))) (Tr.ok ((AV.tup [AV.int .i64 (Int.ofNat 0),AV.nils,AV.int .i64 (Int.ofNat 0)],none),[{ lock:=k1,bs:=b1 },{ lock:=k2,bs:=b2 }])) (Tr.reqP ([AV.ptrT (some 0) (Row.G [aO 7 l y]) 0,AV.int .i64 q]=[AV.ptrT (some 0) (Row.G [aO 7 l y]) 0,AV.int .i64 q]) (Tr.ok ((AV.tup [AV.int .i64 M,AV.slcT none (Row.M [aW.arr .i64 b k]) 1 k false,AV.int .i64 (Int.ofNat 0)],none),[{ lock:=k1,bs:=b1 },{ lock:=k2,bs:=b2 }])))):=by kernel_rfl
theorem NC (n l:Nat) (z y:Nat→Int) (q M:Int) (k1 k2:Bool) (b1 b2:List (Nat×al)):bK Tryz.prog (cd n) 100000 36 Tryz.f36 (KtB.kt 36) (il (iU (tX aT 78 [aO 5 l z,.int .i64 q] (.tup [GZ l y,.int .i64 0])) 79 (K7 (GZ l y) .nils q M)) n 0) a6 a7 [(aO 5 l z,none),(.int .i64 q,none)] [⟨k1,b1⟩,⟨k2,b2⟩] =
 Tr.reqP ([aO 5 l z,AV.int .i64 q]=[aO 5 l z,AV.int .i64 q]) (Tr.ite (dQ (eU (Int.ofNat 0) (Int.ofNat 0))) (Tr.ok ((AV.tup [AV.int .i64 (Int.ofNat 0),AV.nils,AV.int .i64 (Int.ofNat 0)],none),[{ lock:=k1,bs:=b1 },{ lock:=k2,bs:=b2 }])) (Tr.reqP ([AV.ptrT (some 0) (Row.G [aO 7 l y]) 0,AV.int .i64 q]=[AV.ptrT (some 0) (Row.G [aO 7 l y]) 0,AV.int .i64 q]) (Tr.ok ((AV.tup [AV.int .i64 M,AV.nils,AV.int .i64 (Int.ofNat 0)],none),[{ lock:=k1,bs:=b1 },{ lock:=k2,bs:=b2 }])))):=by kernel_rfl
theorem NB (n l:Nat) (z:Nat→Int) (q e:Int) (H:aa):bK Tryz.prog (cd n) 100000 36 Tryz.f36 (KtB.kt 36) (il (tX aT 78 [aO 5 l z,.int .i64 q] (.tup [.nilp,.int .i64 e])) n 0) a6 a7 [(aO 5 l z,none),(.int .i64 q,none)] H =
 Tr.reqP ([aO 5 l z,AV.int .i64 q]=[aO 5 l z,AV.int .i64 q]) (Tr.ite (dQ (eU e (Int.ofNat 0))) (Tr.ok ((AV.tup [AV.int .i64 (Int.ofNat 0),AV.nils,AV.int .i64 e],none),H)) Tr.bad):=by kernel_rfl
end Go.Eng
end
