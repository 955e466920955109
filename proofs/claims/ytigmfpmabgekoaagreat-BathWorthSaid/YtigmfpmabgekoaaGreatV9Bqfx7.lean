/- Bath: the most, where there are no points: trees. -/
import Derived.Test.YtigmfpmabgekoaaGreatV9Bq8x7
import Derived.Test.YtigmfpmabgekoaaGreatV9Ba3x25
import Derived.Test.YtigmfpmabgekoaaGreatV9Bd2x10
set_option linter.unusedVariables false
set_option linter.unusedSimpArgs false
set_option maxRecDepth 100000
section
namespace Go.Eng
open Go.Proofs
open Go.Proofs.YtigmfpmabgekoaaGreat.Known (mostS mostL most)
theorem Mf (n s l m:Nat) (y P:Nat→Int) (K:Int) (H:aa):aK (bu n 79 156) (il (tX (tX aI 81 [fT (s+1) l y] (qi 0 (.nils))) 92 [qi 0 (.nils)] (.nils)) n 0) aP aQ (part Tryz.f79 [1,0]) (hints [(0,fT (s+1) l y),(1,.int .i64 K)]) (an::H) =
 Tr.reqP ([AV.ptrT (some (Nat.succ s)) (Row.G [ay 7 l y]) 0]=[AV.ptrT (some (Nat.succ s)) (Row.G [ay 7 l y]) 0]) (Tr.reqP ([AV.fn (Fn.func 112) [] [AV.ptrT (some 0) (Row.G [AV.nils]) 0]]=[AV.fn (Fn.func 112) [] [AV.ptrT (some 0) (Row.G [AV.nils]) 0]]) (Tr.ok (Ex.normal,[(0,AV.ptrT (some (Nat.succ s)) (Row.G [ay 7 l y]) 0,none),(1,AV.int .i64 K,none),(6,AV.nils,none)],an::H))):=by kernel_rfl
theorem Mg (n s l m:Nat) (y P:Nat→Int) (K:Int) (H:aa):aK (bu n 79 156) (il aI n 0) aP aQ (part Tryz.f79 [1,1,0]) (hints [(0,fT (s+1) l y),(1,.int .i64 K),(6,.nils)]) (an::H) =
 Tr.ok (Ex.normal,[(0,AV.ptrT (some (Nat.succ s)) (Row.G [ay 7 l y]) 0,none),(1,AV.int .i64 K,none),(6,AV.nils,none),(7,AV.map 0 0,none)],{ lock:=false,bs:=[(0,aj.fmap (KK.str 2) (mW (fun x=>false) [Int.negSucc 0,Int.ofNat 0] true) (nO (fun x=>Int.ofNat 0) [Int.negSucc 0,Int.ofNat 0] (Int.ofNat 0)) (rj false 0))] } :: H):=by kernel_rfl
theorem Mh (n s l m:Nat) (y P:Nat→Int) (K:Int) (h:List Int→Bool) (g:List Int→Int) (c:Nat) (H:aa):aK (bu n 79 156) (il aI n 0) aP aQ (part Tryz.f79 [1,1,1,0]) (hints [(0,fT (s+1) l y),(1,.int .i64 K),(6,.nils),(7,.map 0 0)]) (⟨false,[(0,.fmap (.str 2) h g c)]⟩::H) =
 Tr.ok (Ex.normal,[(0,AV.ptrT (some (Nat.succ s)) (Row.G [ay 7 l y]) 0,none),(1,AV.int .i64 K,none),(6,AV.nils,none),(7,AV.map 0 0,none),(8,AV.map 0 1,none)],{ lock:=false,bs:=[(0,aj.fmap (KK.str 2) h g c),(0,aj.fmap (KK.str 2) (fun x=>false) (fun x=>Int.ofNat 0) 0)] } :: H):=by kernel_rfl
theorem Mi (n s l m:Nat) (y P:Nat→Int) (K:Int) (h:List Int→Bool) (g:List Int→Int) (c:Nat) (h2:List Int→Bool) (g2:List Int→Int) (c2:Nat) (H:aa):aK (bu n 79 156) (il aI n 0) aP aQ (part Tryz.f79 [1,1,1,1,0]) (hints [(0,fT (s+1) l y),(1,.int .i64 K),(6,.nils),(7,.map 0 0),(8,.map 0 1)]) (dN h g c h2 g2 c2 []::H) =
 Tr.ok (Ex.normal,[(0,AV.ptrT (some (Nat.succ s)) (Row.G [ay 7 l y]) 0,none),(1,AV.int .i64 K,none),(6,AV.nils,none),(7,AV.map 0 0,none),(8,AV.map 0 1,none),(32,AV.int .i64 (Int.ofNat 0),some 1),(33,AV.int .i64 (Int.ofNat 0),some 1),(34,AV.bool false,some 1)],{ lock:=false,bs:=[(0,aj.fmap (KK.str 2) h g c),(0,aj.fmap (KK.str 2) h2 g2 c2)] } :: H):=by kernel_rfl
theorem Ml (n s l m:Nat) (y P:Nat→Int) (K:Int) (h:List Int→Bool) (g:List Int→Int) (c:Nat) (h2:List Int→Bool) (g2:List Int→Int) (c2:Nat) (H:aa):aK (bu n 79 156) (il aI n 0) aP aQ (part Tryz.f79 [1,1,1,1,1,0]) (hints [(0,fT (s+1) l y),(1,.int .i64 K),(6,.nils),(7,.map 0 0),(8,.map 0 1),(32,.int .i64 (Int.ofNat 0)),(33,.int .i64 (Int.ofNat 0)),(34,.bool false)]) (dN h g c h2 g2 c2 []::H) =
 Tr.ok (Ex.normal,[(6,AV.nils,none),(7,AV.map 0 0,none),(8,AV.map 0 1,none),(17,AV.ptr 0 2 0 0,none)],{ lock:=false,bs:=[(0,aj.fmap (KK.str 2) h g c),(0,aj.fmap (KK.str 2) h2 g2 c2),(0,aj.row (Row.I .i64 [Int.negSucc 0,Int.ofNat 0]))] } :: H):=by kernel_rfl
theorem I5 (n m:Nat) (P:Nat→Int) (h:List Int→Bool) (g:List Int→Int) (c:Nat) (h2:List Int→Bool) (g2:List Int→Int) (c2:Nat) (x y:Int) (H:aa):(Go.Proofs.YtigmfpmabgekoaaGreat.Known.mostS).Bc (bu n 79 156) (il aI n 0) (hints [(6,.nils),(7,.map 0 0),(8,.map 0 1),(17,.ptr 0 2 0 0)]) (dN h g c h2 g2 c2 [fb x y]::H) =
 Tr.ok ([(6,AV.nils,none),(7,AV.map 0 0,none),(8,AV.map 0 1,none),(17,AV.ptr 0 2 0 0,none),(90,AV.map 0 0,none)],{ lock:=false,bs:=[(0,aj.fmap (KK.str 2) h g c),(0,aj.fmap (KK.str 2) h2 g2 c2),(0,aj.row (Row.I .i64 [x,y]))] } :: H):=by kernel_rfl
theorem Mp (n m:Nat) (P:Nat→Int) (h:List Int→Bool) (g:List Int→Int) (c:Nat) (h2:List Int→Bool) (g2:List Int→Int) (c2:Nat) (b1 b2 b3:List (Nat×aj)) (a b v x y:Int):(Go.Proofs.YtigmfpmabgekoaaGreat.Known.mostL).oH (bu n 79 156) (il aI n 0) aP aQ 3 4 (.agg (.I .i64 [a,b]),.int .i64 v) (hints [(6,.nils),(7,.map 4 0),(8,.map 0 1),(17,.ptr 0 2 0 0),(91,.ptr 0 3 0 0)]) (⟨false,[(0,.dead),(0,.fmap (.str 2) h2 g2 c2),fb x y,(0,.dead)]⟩::[⟨true,b1⟩,⟨true,b2⟩,⟨true,b3⟩,iy (.fmap (.str 2) h g c)]) =
 (fun (Z0:aT)=>((fun (Z1:bx)=>((fun (Z2:bx)=>((fun (Z3:bx)=>Tr.ite (cn (g [x,y]) v) (Tr.ok (Z0,[Z2,{ lock:=true,bs:=b1 },{ lock:=true,bs:=b2 },{ lock:=true,bs:=b3 },Z1])) (Tr.ite (c5 v (g [x,y])) (Tr.ite (cn b y) (Tr.ok (Z0,[Z2,{ lock:=true,bs:=b1 },{ lock:=true,bs:=b2 },{ lock:=true,bs:=b3 },Z1])) (Tr.ite (c5 b y) (Tr.ite (cn a x) (Tr.ok (Z0,[Z2,{ lock:=true,bs:=b1 },{ lock:=true,bs:=b2 },{ lock:=true,bs:=b3 },Z1])) (Tr.ok (Z0,[Z3,{ lock:=true,bs:=b1 },{ lock:=true,bs:=b2 },{ lock:=true,bs:=b3 },Z1]))) (Tr.ok (Z0,[Z3,{ lock:=true,bs:=b1 },{ lock:=true,bs:=b2 },{ lock:=true,bs:=b3 },Z1])))) (Tr.ok (Z0,[Z3,{ lock:=true,bs:=b1 },{ lock:=true,bs:=b2 },{ lock:=true,bs:=b3 },Z1])))) { lock:=false,bs:=[(0,aj.dead),(0,aj.fmap (KK.str 2) h2 g2 c2),(0,aj.row (Row.I .i64 [x,y])),(0,aj.dead)] })) { lock:=false,bs:=[(0,aj.dead),(0,aj.fmap (KK.str 2) h2 g2 c2),(0,aj.row (Row.I .i64 [a,b])),(0,aj.dead)] })) { lock:=true,bs:=[(0,aj.fmap (KK.str 2) h g c)] })) [(6,AV.nils,none),(7,AV.map 4 0,none),(8,AV.map 0 1,none),(17,AV.ptr 0 2 0 0,none),(91,AV.ptr 0 3 0 0,none)]:=by kernel_rfl
theorem Mq (n m:Nat) (P:Nat→Int) (h:List Int→Bool) (g:List Int→Int) (c:Nat) (h2:List Int→Bool) (g2:List Int→Int) (c2:Nat) (b1 b2 b3:List (Nat×aj)) (a b v x y:Int):(Go.Proofs.YtigmfpmabgekoaaGreat.Known.mostL).oH (bu n 79 156) (il aI n 0) aP aQ 3 4 (.agg (.I .i64 [a,b]),.int .i64 v) (hints [(6,.nils),(7,.map 4 0),(8,.map 0 1),(17,.ptr 0 2 0 0),(90,.map 4 0),(91,.ptr 0 3 0 0)]) (⟨false,[(0,.dead),(0,.fmap (.str 2) h2 g2 c2),fb x y,(0,.dead)]⟩::[⟨true,b1⟩,⟨true,b2⟩,⟨true,b3⟩,iy (.fmap (.str 2) h g c)]) =
 (fun (Z0:aT)=>((fun (Z1:bx)=>((fun (Z2:bx)=>((fun (Z3:bx)=>Tr.ite (cn (g [x,y]) v) (Tr.ok (Z0,[Z2,{ lock:=true,bs:=b1 },{ lock:=true,bs:=b2 },{ lock:=true,bs:=b3 },Z1])) (Tr.ite (c5 v (g [x,y])) (Tr.ite (cn b y) (Tr.ok (Z0,[Z2,{ lock:=true,bs:=b1 },{ lock:=true,bs:=b2 },{ lock:=true,bs:=b3 },Z1])) (Tr.ite (c5 b y) (Tr.ite (cn a x) (Tr.ok (Z0,[Z2,{ lock:=true,bs:=b1 },{ lock:=true,bs:=b2 },{ lock:=true,bs:=b3 },Z1])) (Tr.ok (Z0,[Z3,{ lock:=true,bs:=b1 },{ lock:=true,bs:=b2 },{ lock:=true,bs:=b3 },Z1]))) (Tr.ok (Z0,[Z3,{ lock:=true,bs:=b1 },{ lock:=true,bs:=b2 },{ lock:=true,bs:=b3 },Z1])))) (Tr.ok (Z0,[Z3,{ lock:=true,bs:=b1 },{ lock:=true,bs:=b2 },{ lock:=true,bs:=b3 },Z1])))) { lock:=false,bs:=[(0,aj.dead),(0,aj.fmap (KK.str 2) h2 g2 c2),(0,aj.row (Row.I .i64 [x,y])),(0,aj.dead)] })) { lock:=false,bs:=[(0,aj.dead),(0,aj.fmap (KK.str 2) h2 g2 c2),(0,aj.row (Row.I .i64 [a,b])),(0,aj.dead)] })) { lock:=true,bs:=[(0,aj.fmap (KK.str 2) h g c)] })) [(6,AV.nils,none),(7,AV.map 4 0,none),(8,AV.map 0 1,none),(17,AV.ptr 0 2 0 0,none),(91,AV.ptr 0 3 0 0,none)]:=by kernel_rfl
theorem Mm (n D m:Nat) (P:Nat→Int) (h2:List Int→Bool) (g2:List Int→Int) (c2:Nat) (R:aa) (x y:Int):(Go.Proofs.YtigmfpmabgekoaaGreat.Known.mostL).zj (bu n 79 156) (il aI n 0) (hints [(6,.nils),(7,.map D 0),(8,.map 0 1),(17,.ptr 0 2 0 0),(91,.ptr 0 3 0 0)]) (⟨false,[(0,.dead),(0,.fmap (.str 2) h2 g2 c2),fb x y,(0,.dead)]⟩::R) =
 Tr.ok ([(6,AV.nils,none),(7,AV.map D 0,none),(8,AV.map 0 1,none),(17,AV.ptr 0 2 0 0,none),(91,AV.ptr 0 3 0 0,none),(92,AV.tup [AV.bool false],none),(93,AV.bool false,none)],{ lock:=false,bs:=[(0,aj.dead),(0,aj.fmap (KK.str 2) h2 g2 c2),(0,aj.row (Row.I .i64 [x,y])),(0,aj.dead)] } :: R):=by kernel_rfl
end Go.Eng
end
section
namespace Go.Eng
open Go.Proofs
noncomputable def tr (m:Nat) (P:Nat→Int):av:=[(6,.nils),(7,.map 4 0),(8,.map 0 1),(17,.ptr 0 2 0 0),(91,.ptr 0 3 0 0)]
noncomputable def vQ (m:Nat) (P:Nat→Int):av:=[(6,.nils),(7,.map 4 0),(8,.map 0 1),(17,.ptr 0 2 0 0),(90,.map 4 0),(91,.ptr 0 3 0 0)]
section
variable (n m:Nat) (P:Nat→Int) (h:List Int→Bool) (g:List Int→Int) (c:Nat) (h2:List Int→Bool) (g2:List Int→Int) (c2:Nat) (b1 b2 b3:List (Nat×aj))
theorem Mt (x e:Int×Int):cZ mL (bu n 79 156) 3 4 (qg b1 b2 b3 h g c) (zf g e) (tr m P,fm h2 g2 c2 x)=some (tr m P,fm h2 g2 c2 (if uT g e x=true then e else x)):=by
 obtain ⟨x,y⟩:=x
 obtain ⟨a,b⟩:=e
 refine xN (Mp n m P h g c h2 g2 c2 b1 b2 b3 a b (g [a,b]) x y) (aC n) (af _ _) (ag _ _) ?_
 have hb:=m7 (g:=g) (x:=(a,b)) (y:=(x,y))
 dsimp only at hb
 rw[eZ,eZ,eZ,b8,b8]
 by_cases k1:g [x,y]<g [a,b]
 · rw[decide_eq_true k1,if_pos (hb.2 (.inl k1))]
   exact Tr.al (fun _=>Tr.ao ⟨rfl,rfl⟩) (fun hc=>by cases hc)
 · rw[decide_eq_false k1]
   refine Tr.al (fun hc=>by cases hc) (fun _=>?_)
   by_cases k2:g [a,b]=g [x,y]
   · rw[show (g [a,b] == g [x,y])=true from beq_iff_eq.2 k2]
     refine Tr.al (fun _=>?_) (fun hc=>by cases hc)
     by_cases k3:b<y
     · rw[decide_eq_true k3,if_pos (hb.2 (.inr ⟨k2,.inl k3⟩))]
       exact Tr.al (fun _=>Tr.ao ⟨rfl,rfl⟩) (fun hc=>by cases hc)
     · rw[decide_eq_false k3]
       refine Tr.al (fun hc=>by cases hc) (fun _=>?_)
       by_cases k4:b=y
       · rw[show (b == y)=true from beq_iff_eq.2 k4]
         refine Tr.al (fun _=>?_) (fun hc=>by cases hc)
         by_cases k5:a<x
         · rw[decide_eq_true k5,if_pos (hb.2 (.inr ⟨k2,.inr ⟨k4,k5⟩⟩))]
           exact Tr.al (fun _=>Tr.ao ⟨rfl,rfl⟩) (fun hc=>by cases hc)
         · rw[decide_eq_false k5,if_neg (fun q=>by have:=hb.1 q;omega)]
           exact Tr.al (fun hc=>by cases hc) (fun _=>Tr.ao ⟨rfl,rfl⟩)
       · rw[show (b == y)=false from beq_eq_false_iff_ne.2 k4,if_neg (fun q=>by have:=hb.1 q;omega)]
         exact Tr.al (fun hc=>by cases hc) (fun _=>Tr.ao ⟨rfl,rfl⟩)
   · rw[show (g [a,b] == g [x,y])=false from beq_eq_false_iff_ne.2 k2,if_neg (fun q=>by have:=hb.1 q;omega)]
     exact Tr.al (fun hc=>by cases hc) (fun _=>Tr.ao ⟨rfl,rfl⟩)
theorem KA (x e:Int×Int):cZ mL (bu n 79 156) 3 4 (qg b1 b2 b3 h g c) (zf g e) (vQ m P,fm h2 g2 c2 x)=some (tr m P,fm h2 g2 c2 (if uT g e x=true then e else x)):=by
 obtain ⟨x,y⟩:=x
 obtain ⟨a,b⟩:=e
 refine xN (Mq n m P h g c h2 g2 c2 b1 b2 b3 a b (g [a,b]) x y) (aC n) (af _ _) (ag _ _) ?_
 have hb:=m7 (g:=g) (x:=(a,b)) (y:=(x,y))
 dsimp only at hb
 rw[eZ,eZ,eZ,b8,b8]
 by_cases k1:g [x,y]<g [a,b]
 · rw[decide_eq_true k1,if_pos (hb.2 (.inl k1))]
   exact Tr.al (fun _=>Tr.ao ⟨rfl,rfl⟩) (fun hc=>by cases hc)
 · rw[decide_eq_false k1]
   refine Tr.al (fun hc=>by cases hc) (fun _=>?_)
   by_cases k2:g [a,b]=g [x,y]
   · rw[show (g [a,b] == g [x,y])=true from beq_iff_eq.2 k2]
     refine Tr.al (fun _=>?_) (fun hc=>by cases hc)
     by_cases k3:b<y
     · rw[decide_eq_true k3,if_pos (hb.2 (.inr ⟨k2,.inl k3⟩))]
       exact Tr.al (fun _=>Tr.ao ⟨rfl,rfl⟩) (fun hc=>by cases hc)
     · rw[decide_eq_false k3]
       refine Tr.al (fun hc=>by cases hc) (fun _=>?_)
       by_cases k4:b=y
       · rw[show (b == y)=true from beq_iff_eq.2 k4]
         refine Tr.al (fun _=>?_) (fun hc=>by cases hc)
         by_cases k5:a<x
         · rw[decide_eq_true k5,if_pos (hb.2 (.inr ⟨k2,.inr ⟨k4,k5⟩⟩))]
           exact Tr.al (fun _=>Tr.ao ⟨rfl,rfl⟩) (fun hc=>by cases hc)
         · rw[decide_eq_false k5,if_neg (fun q=>by have:=hb.1 q;omega)]
           exact Tr.al (fun hc=>by cases hc) (fun _=>Tr.ao ⟨rfl,rfl⟩)
       · rw[show (b == y)=false from beq_eq_false_iff_ne.2 k4,if_neg (fun q=>by have:=hb.1 q;omega)]
         exact Tr.al (fun hc=>by cases hc) (fun _=>Tr.ao ⟨rfl,rfl⟩)
   · rw[show (g [a,b] == g [x,y])=false from beq_eq_false_iff_ne.2 k2,if_neg (fun q=>by have:=hb.1 q;omega)]
     exact Tr.al (fun hc=>by cases hc) (fun _=>Tr.ao ⟨rfl,rfl⟩)
theorem B4:∀ (ks:List (Int×Int)) (x:Int×Int),dw mL (bu n 79 156) 3 4 (qg b1 b2 b3 h g c) (ks.map (zf g)) (tr m P,fm h2 g2 c2 x)=some (tr m P,fm h2 g2 c2 (BO g ks x))
 | [],x=>rfl
 | e::ks,x=>by
   show (match cZ mL (bu n 79 156) 3 4 (qg b1 b2 b3 h g c) (zf g e) (tr m P,fm h2 g2 c2 x) with
    | some t=>dw mL (bu n 79 156) 3 4 (qg b1 b2 b3 h g c) (ks.map (zf g)) t
    | none=>none)=_
   rw[Mt]
   exact B4 ks _
theorem LU (x:Int×Int):mL.last (bu n 79 156) (tr m P) (fm h2 g2 c2 x::qg b1 b2 b3 h g c)=some (tr m P++[(92,.tup [.bool false]),(93,.bool false)],fm h2 g2 c2 x::qg b1 b2 b3 h g c) :=
 zi (Mm n 4 m P h2 g2 c2 (qg b1 b2 b3 h g c) x.1 x.2) (aC _) (Tr.ao rfl)
end
theorem G5 (n m:Nat) (P:Nat→Int) (h:List Int→Bool) (g:List Int→Int) (c:Nat) (h2:List Int→Bool) (g2:List Int→Int) (c2:Nat) (b1 b2 b3:List (Nat×aj)) (x r:Int×Int) (hx:h [x.1,x.2]=true) (hr:sE h g r) :
 sF (bu n 79 156) mL 3 (qg b1 b2 b3 h g c) (vQ m P,fm h2 g2 c2 x) (.str 2) h g c (tr m P++[(92,.tup [.bool false]),(93,.bool false)],fm h2 g2 c2 r):=by
 refine ⟨rfl,fun es hE vs v1 v2 v3=>?_⟩
 obtain ⟨ks,l1,l2,l3,l4⟩:=BU hE vs v3
 have cov:∀ e:Int×Int,h [e.1,e.2]=true→e ∈ ks:=fun e he=>by
  obtain ⟨_,j,j1,j2⟩:=hE.all _ he
  obtain ⟨e',he',e2⟩:=l3 j (yL v1 v2 v3 j1) _ j2
  simp only[List.cons.injEq,and_true] at e2
  have:e=e':=Prod.ext e2.1 e2.2
  rw[this];exact he'
 obtain ⟨s1,s2⟩:=mf (g:=g) ks x
 have hb:BO g ks x=r:=by
  refine BP (g:=g) ?_ (s2 r (.inr (cov r hr.1)))
  refine hr.2 _ ?_
  rcases s1 with e | e
  · rw[e];exact hx
  · exact l2 _ e
 rw[l1]
 have hf:dw mL (bu n 79 156) 3 4 (qg b1 b2 b3 h g c) (ks.map (zf g)) (vQ m P,fm h2 g2 c2 x)=some (tr m P,fm h2 g2 c2 (BO g ks x)):=by
  cases ks with
  | nil=>exact (List.not_mem_nil (cov x hx)).elim
  | cons e ks =>
    show (match cZ mL (bu n 79 156) 3 4 (qg b1 b2 b3 h g c) (zf g e) (vQ m P,fm h2 g2 c2 x) with
     | some t=>dw mL (bu n 79 156) 3 4 (qg b1 b2 b3 h g c) (ks.map (zf g)) t
     | none=>none)=_
    rw[KA]
    exact B4 n m P h g c h2 g2 c2 b1 b2 b3 ks _
 refine ⟨_,hf,?_⟩
 rw[hb]
 exact LU n m P h g c h2 g2 c2 b1 b2 b3 r
noncomputable def jU (m:Nat) (P:Nat→Int):av:=[(6,.nils),(7,.map 0 0),(8,.map 0 1),(17,.ptr 0 2 0 0)]
noncomputable def Fc (m:Nat) (P:Nat→Int):av:=jU m P++[(91,.ptr 0 3 0 0),(92,.tup [.bool false]),(93,.bool false)]
theorem F1 (n m:Nat) (P:Nat→Int) (S:MS) (k1 k2 k3:Bool) (b1 b2 b3:List (Nat×aj)) (x r:Int×Int) (hE:∃ es,oT (.str 2) es S.h S.g S.c) (hx:S.h [x.1,x.2]=true) (hr:sE S.h S.g r) :
 gS (bu n 79 156) mS mL (jU m P) (kf S [fb x.1 x.2]::[⟨k1,b1⟩,⟨k2,b2⟩,⟨k3,b3⟩])=some (Fc m P,kf S [fb r.1 r.2,(0,.dead)]::[⟨k1,b1⟩,⟨k2,b2⟩,⟨k3,b3⟩]):=by
 have hp:cR (bu n 79 156).P (bu n 79 156).nt (bu n 79 156).call mS.ops0 mS.pre (jU m P) (kf S [fb x.1 x.2]::[⟨k1,b1⟩,⟨k2,b2⟩,⟨k3,b3⟩])=some (jU m P++[(90,.map 0 0)],kf S [fb x.1 x.2]::[⟨k1,b1⟩,⟨k2,b2⟩,⟨k3,b3⟩]):=by
  have:=bK.sv (S:=mS) (cx:=bu n 79 156) (callR:=il aI n 0) (aC _) (fr:=hints (jU m P)) (H:=kf S [fb x.1 x.2]::[⟨k1,b1⟩,⟨k2,b2⟩,⟨k3,b3⟩]) (by
   show (bK.Bc _ _ _ _ _).run=_
   have:=I5 n m P S.h S.g S.c S.h2 S.g2 S.c2 x.1 x.2 [⟨k1,b1⟩,⟨k2,b2⟩,⟨k3,b3⟩]
   exact congrArg Tr.run this)
  rw[aF] at this
  exact this
 have hends:=G5 n m P S.h S.g S.c S.h2 S.g2 S.c2 b1 b2 b3 x r hx hr
 unfold gS
 rw[hp]
 show (@dite _ (∃ y,sF (bu n 79 156) mL 3 (qg b1 b2 b3 S.h S.g S.c) (vQ m P,fm S.h2 S.g2 S.c2 x) (.str 2) S.h S.g S.c y) (Classical.propDecidable _)
  (fun hx=>if (Classical.choose hx).2.bs.all (fun x=>rp 4 0 x.2) && ((jY (sM 4 0) (Classical.choose hx).1).all (fun x=>lS 4 0 x.2) && eX (aq (Classical.choose hx).2.bs 0).2) then some (jY (sM 4 0) (Classical.choose hx).1,dq ((Classical.choose hx).2::[⟨k1,b1⟩,⟨k2,b2⟩,⟨k3,b3⟩]) 0 0 (0,.fmap (.str 2) S.h S.g S.c)) else none)
  (fun _=>none))=_
 have hex:∃ y,sF (bu n 79 156) mL 3 (qg b1 b2 b3 S.h S.g S.c) (vQ m P,fm S.h2 S.g2 S.c2 x) (.str 2) S.h S.g S.c y:=⟨_,hends⟩
 have hy:Classical.choose hex=(tr m P++[(92,.tup [.bool false]),(93,.bool false)],fm S.h2 S.g2 S.c2 r):=by
  have hc:=Classical.choose_spec hex
  obtain ⟨es,hE⟩:=hE
  obtain ⟨s1,e1,e2⟩:=hc.2 es hE (List.range es.length) List.nodup_range (by simp) (fun j hj=>by simpa using hj)
  obtain ⟨s2,f1,f2⟩:=hends.2 es hE (List.range es.length) List.nodup_range (by simp) (fun j hj=>by simpa using hj)
  rw[e1] at f1
  obtain rfl:=Option.some.inj f1
  rw[e2] at f2
  simp only[Option.some.injEq,Prod.mk.injEq,List.cons.injEq,and_true] at f2
  exact Prod.ext f2.1 f2.2
 rw[dif_pos hex,hy]
 refine (if_pos ?_).trans ?_
 · rfl
 · rfl
end Go.Eng
end
section
namespace Go.Eng
open Go.Proofs
theorem Qb (n s l m:Nat) (y P Q:Nat→Int) (K:Int) (H:aa):aK (bu n 79 156) (il (tX (tX aI 81 [fT (s+1) l y] (qi 0 (bc m P false))) 92 [qi 0 (bc m P false)] (bc m Q false)) n 0) aP aQ (part Tryz.f79 [1,0]) (hints [(0,fT (s+1) l y),(1,.int .i64 K)]) (an::H) =
 (fun (Z0:Row)=>((fun (Z1:List AV)=>Tr.reqP ([AV.ptrT (some (Nat.succ s)) Z0 0]=[AV.ptrT (some (Nat.succ s)) Z0 0]) (Tr.reqP (Z1=Z1) (Tr.ok (Ex.normal,[(0,AV.ptrT (some (Nat.succ s)) Z0 0,none),(1,AV.int .i64 K,none),(6,AV.slcT none (Row.M [aM.arr .i64 Q m]) 1 m false,none)],an::H)))) [AV.fn (Fn.func 112) [] [AV.ptrT (some 0) (Row.G [AV.slcT none (Row.M [aM.arr .i64 P m]) 1 m false]) 0]])) (Row.G [AV.slcT none (Row.M [aM.arr .i64 y (aH l 7)]) 7 l false]):=by kernel_rfl
theorem Qc (n s l m:Nat) (y P:Nat→Int) (K:Int) (H:aa):aK (bu n 79 156) (il aI n 0) aP aQ (part Tryz.f79 [1,1,0]) (hints [(0,fT (s+1) l y),(1,.int .i64 K),(6,bc m P false)]) (an::H) =
 Tr.ok (Ex.normal,[(0,AV.ptrT (some (Nat.succ s)) (Row.G [AV.slcT none (Row.M [aM.arr .i64 y (aH l 7)]) 7 l false]) 0,none),(1,AV.int .i64 K,none),(6,AV.slcT none (Row.M [aM.arr .i64 P m]) 1 m false,none),(7,AV.map 0 0,none)],{ lock:=false,bs:=[(0,aj.fmap (KK.str 2) (mW (fun x=>false) [Int.negSucc 0,Int.ofNat 0] true) (nO (fun x=>Int.ofNat 0) [Int.negSucc 0,Int.ofNat 0] (Int.ofNat 0)) (rj false 0))] } :: H):=by kernel_rfl
theorem Qd (n s l m:Nat) (y P:Nat→Int) (K:Int) (h:List Int→Bool) (g:List Int→Int) (c:Nat) (H:aa):aK (bu n 79 156) (il aI n 0) aP aQ (part Tryz.f79 [1,1,1,0]) (hints [(0,fT (s+1) l y),(1,.int .i64 K),(6,bc m P false),(7,.map 0 0)]) (⟨false,[(0,.fmap (.str 2) h g c)]⟩::H) =
 Tr.ok (Ex.normal,[(0,AV.ptrT (some (Nat.succ s)) (Row.G [AV.slcT none (Row.M [aM.arr .i64 y (aH l 7)]) 7 l false]) 0,none),(1,AV.int .i64 K,none),(6,AV.slcT none (Row.M [aM.arr .i64 P m]) 1 m false,none),(7,AV.map 0 0,none),(8,AV.map 0 1,none)],{ lock:=false,bs:=[(0,aj.fmap (KK.str 2) h g c),(0,aj.fmap (KK.str 2) (fun x=>false) (fun x=>Int.ofNat 0) 0)] } :: H):=by kernel_rfl
theorem Qk (n m v k:Nat) (P b b':Nat→Int) (h:List Int→Bool) (g:List Int→Int) (c:Nat) (h2:List Int→Bool) (g2:List Int→Int) (c2:Nat) (x y:Int) (H:aa):aK (bu n 79 156) (il (dI aI 94 (Rr v k b b' h g c h2 g2 c2 (-1) 0 H)) n 0) (dJ aP 8 (kA m P .nils (g [x,y])) (dN h g c h2 g2 c2 [fb x y,(0,.dead),fb (-1) 0]::H) (.ok (.normal,hints (kA m P (.slc 0 5 v 0 1 k none) (g [x,y])++[(136,.bool false)]),dN h g c h2 g2 c2 [fb (-1) 0,(0,.dead),fb (-1) 0,(v,.row (.M [.arr .i64 b k]))]::H))) aQ (part Tryz.f79 [1,1,1,1,1,1,1]) (hints (yI m P)) (dN h g c h2 g2 c2 [fb x y,(0,.dead)]::H) =
 (fun (Z0:Nat×aj)=>((fun (Z1:av)=>((fun (Z2:bx)=>((fun (Z3:bx)=>Tr.reqP (Z1=Z1∧Z3::H=Z3::H) (Tr.reqP ([AV.slc 0 5 v 0 1 k none]=[AV.slc 0 5 v 0 1 k none]∧Z2::H=Z2::H) (Tr.ok (Ex.ret,[(4,AV.int .i64 (g [x,y]),none),(5,AV.slc 0 5 v 0 1 k none,none)],{ lock:=false,bs:=[(0,aj.fmap (KK.str 2) h g c),(0,aj.fmap (KK.str 2) h2 g2 c2),Z0,(0,aj.dead),Z0,(v,aj.row (Row.M [aM.arr .i64 b' k]))] } :: H)))) { lock:=false,bs:=[(0,aj.fmap (KK.str 2) h g c),(0,aj.fmap (KK.str 2) h2 g2 c2),(0,aj.row (Row.I .i64 [x,y])),(0,aj.dead),Z0] })) { lock:=false,bs:=[(0,aj.fmap (KK.str 2) h g c),(0,aj.fmap (KK.str 2) h2 g2 c2),Z0,(0,aj.dead),Z0,(v,aj.row (Row.M [aM.arr .i64 b k]))] })) [(6,AV.slcT none (Row.M [aM.arr .i64 P m]) 1 m false),(8,AV.map 0 1),(17,AV.ptr 0 2 0 0),(21,AV.int .i64 (g [x,y])),(22,AV.nils),(23,AV.ptr 0 4 0 0)])) (0,aj.row (Row.I .i64 [Int.negSucc 0,Int.ofNat 0])):=by kernel_rfl
theorem Qm (n m:Nat) (P:Nat→Int) (h:List Int→Bool) (g:List Int→Int) (c:Nat) (h2:List Int→Bool) (g2:List Int→Int) (c2:Nat) (x y:Int) (H:aa):aK (bu n 79 156) (il (tX aI 94 [.nils] (.tup [])) n 0) (dJ aP 8 (kA m P .nils (g [x,y])) (dN h g c h2 g2 c2 [fb x y,(0,.dead),fb (-1) 0]::H) (.ok (.normal,hints (kA m P .nils (g [x,y])++[(136,.bool false)]),dN h g c h2 g2 c2 [fb (-1) 0,(0,.dead),fb (-1) 0]::H))) aQ (part Tryz.f79 [1,1,1,1,1,1,1]) (hints (yI m P)) (dN h g c h2 g2 c2 [fb x y,(0,.dead)]::H) =
 (fun (Z0:bx)=>((fun (Z1:av)=>Tr.reqP (Z1=Z1∧Z0::H=Z0::H) (Tr.reqP ([AV.nils]=[AV.nils]) (Tr.ok (Ex.ret,[(4,AV.int .i64 (g [x,y]),none),(5,AV.nils,none)],{ lock:=false,bs:=[(0,aj.fmap (KK.str 2) h g c),(0,aj.fmap (KK.str 2) h2 g2 c2),(0,aj.row (Row.I .i64 [Int.negSucc 0,Int.ofNat 0])),(0,aj.dead),(0,aj.row (Row.I .i64 [Int.negSucc 0,Int.ofNat 0]))] } :: H)))) [(6,AV.slcT none (Row.M [aM.arr .i64 P m]) 1 m false),(8,AV.map 0 1),(17,AV.ptr 0 2 0 0),(21,AV.int .i64 (g [x,y])),(22,AV.nils),(23,AV.ptr 0 4 0 0)])) { lock:=false,bs:=[(0,aj.fmap (KK.str 2) h g c),(0,aj.fmap (KK.str 2) h2 g2 c2),(0,aj.row (Row.I .i64 [x,y])),(0,aj.dead),(0,aj.row (Row.I .i64 [Int.negSucc 0,Int.ofNat 0]))] }:=by kernel_rfl
end Go.Eng
end
section
namespace Go.Eng
open Go.Proofs
open Go.Proofs.YtigmfpmabgekoaaGreat.Known (mostS mostL most navB bd79)
theorem Ql (n:Nat) (h:List Int→Bool) (g:List Int→Int) (c:Nat) (h2:List Int→Bool) (g2:List Int→Int) (c2:Nat) (H:aa):aK (bu n 79 156) (il (tX aI 94 [.nils] (.tup [])) n 0) aP aQ (part Tryz.f79 [1,1,1,1,1,1,1]) (hints [(6,.nils),(7,.map 0 0),(8,.map 0 1),(17,.ptr 0 2 0 0),(91,.ptr 0 3 0 0),(92,.tup [.bool false]),(93,.bool false)]) (dN h g c h2 g2 c2 [fb (-1) 0,(0,.dead)]::H) =
 Tr.ite (bL (g7 (c5 (Int.negSucc 0) (Int.negSucc 0)) (c5 (Int.ofNat 0) (Int.ofNat 0)))) Tr.bad (Tr.reqP ([AV.nils]=[AV.nils]) (Tr.ok (Ex.ret,[(4,AV.int .i64 (g [Int.negSucc 0,Int.ofNat 0]),none),(5,AV.nils,none)],{ lock:=false,bs:=[(0,aj.fmap (KK.str 2) h g c),(0,aj.fmap (KK.str 2) h2 g2 c2),(0,aj.row (Row.I .i64 [Int.negSucc 0,Int.ofNat 0])),(0,aj.dead),(0,aj.row (Row.I .i64 [Int.negSucc 0,Int.ofNat 0]))] } :: H))):=by kernel_rfl
theorem Rv {n s l:Nat} {y:Nat→Int} {K:Int} {H:aa} {fr:av} {lv:bx} {V:AV}
 (hp:gx (bu n 79 156) mostS mostL most.suf most.pre [(0,fT (s+1) l y),(1,.int .i64 K)] (an::H)=some (.ret,fr,lv::H))
 (hv:(match eS Tryz.prog fr (lv::H) Tryz.f79.results.toList with
   | some vs=>some (cX lv.bs 5 (one vs),H)
   | none=>none)=some (V,H)):cd (n+1) (.fn 79) [fT s l y,.int .i64 K] H=some (V,H):=by
 have e156:Tryz.f79.ntmps=156:=by kernel_rfl
 have ho:nE (cd n) 79 [fT s l y,.int .i64 K] H=some (V,H):=by
  show uh Tryz.prog KtB.kt 100000 most (cd n) [fT s l y,.int .i64 K] H=_
  unfold uh
  rw[show Tryz.prog.funcs[most.f]?=some Tryz.f79 from Tryz.func79]
  dsimp only
  rw[if_pos (by rw[e156];rfl),e156]
  rw[show gx (⟨Tryz.prog,cd n,100000,most.f,156,KtB.kt most.f,none⟩:Cx) most.S most.L most.suf most.pre (dX 0 [fT s l y,.int .i64 K]) (⟨false,[]⟩::H)=_ from hp]
  exact hv
 unfold cd
 rw[show cS Tryz.prog nE KtB.kt 100000 (n+1) (.fn 79) [fT s l y,.int .i64 K] H=(match nE (cd n) 79 [fT s l y,.int .i64 K] H with
  | some r=>some r
  | none=>_) from rfl,ho]
theorem fK {cx:Cx} {S:bK} {L:bm} {suf c:Code} {r:List Code} {fr fr2:av} {H H2:aa} (h:exec cx c fr H=some (.normal,fr2,H2)):gx cx S L suf (c::r) fr H=gx cx S L suf r fr2 H2:=by
 show (match dh cx c fr H with
  | some (.normal,fr,H)=>gx cx S L suf r fr H
  | x=>x)=_
 rw[dK,h]
theorem FU {cx:Cx} {S:bK} {L:bm} {suf:Code} {fr fr2:av} {H H2:aa} (h:eI cx S L fr H=some (fr2,H2)):gx cx S L suf [] fr H=exec cx suf fr2 H2:=by
 show (match eI cx S L fr H with
  | some (fr,H)=>dh cx suf fr H
  | none=>none)=_
 rw[h]
 exact dK _ _ _ _
end Go.Eng
end
section
namespace Go.Eng
open Go.Proofs
open Go.Proofs.YtigmfpmabgekoaaGreat.Known (mostS mostL most navB bd79)
theorem rR {cx:Cx} {S:bK} {L:bm} {fr fr1:av} {H:aa} {l1:bx} {r1:aa} {i:Nat} {q:KK} {h:List Int→Bool} {g:List Int→Int} {c:Nat} (hp:cR cx.P cx.nt cx.call S.ops0 S.pre fr H=some (fr1,l1::r1)) (hf:bw fr1 S.m=.map 0 i) (hg:au (l1::r1) 0 i=(0,.fmap q h g c)):mT cx S L fr H=none:=by
 have a1:mU cx S L fr H=none:=by
  unfold mU
  rw[hp];dsimp only;rw[hf];simp only[hg]
 have a2:kK cx S L fr H=none:=by
  unfold kK
  rw[hp];dsimp only;rw[hf]
 have a3:kL cx S L fr H=none:=by
  unfold kL
  rw[hp];dsimp only;rw[hf]
 unfold mT kJ
 rw[a1,a2,a3]
theorem Mk (n m:Nat) (P:Nat→Int) (S:MS) (H:aa) (x:Int×Int):cR (bu n 79 156).P (bu n 79 156).nt (bu n 79 156).call mostS.ops0 mostS.pre (nH m P) (kf S [fb x.1 x.2]::H)=some (nH m P++[(90,.map 0 0)],kf S [fb x.1 x.2]::H):=by
 have:=bK.sv (S:=mS) (cx:=bu n 79 156) (callR:=il aI n 0) (aC _) (fr:=hints (nH m P)) (H:=kf S [fb x.1 x.2]::H) (by
  show (bK.Bc _ _ _ _ _).run=_
  have:=Mn n m P S.h S.g S.c S.h2 S.g2 S.c2 x.1 x.2 H
  exact congrArg Tr.run this)
 rw[aF] at this
 exact this
theorem Ky (n m:Nat) (P:Nat→Int) (S:MS) (H:aa) (x:Int×Int):cR (bu n 79 156).P (bu n 79 156).nt (bu n 79 156).call mostS.ops0 mostS.pre (jU m P) (kf S [fb x.1 x.2]::H)=some (jU m P++[(90,.map 0 0)],kf S [fb x.1 x.2]::H):=by
 have:=bK.sv (S:=mS) (cx:=bu n 79 156) (callR:=il aI n 0) (aC _) (fr:=hints (jU m P)) (H:=kf S [fb x.1 x.2]::H) (by
  show (bK.Bc _ _ _ _ _).run=_
  have:=I5 n m P S.h S.g S.c S.h2 S.g2 S.c2 x.1 x.2 H
  exact congrArg Tr.run this)
 rw[aF] at this
 exact this
theorem FG:(⟨false,[(0,aj.fmap (KK.str 2) (mW (fun x=>false) [Int.negSucc 0,Int.ofNat 0] true) (nO (fun x=>Int.ofNat 0) [Int.negSucc 0,Int.ofNat 0] (Int.ofNat 0)) (rj false 0)),(0,aj.fmap (KK.str 2) (fun x=>false) (fun x=>Int.ofNat 0) 0)]⟩:bx)=kf cV []:=by
 rw[p6,p7,sY];rfl
section
variable {l K:Nat} {z:Nat→Int} (h:bD l z=0) (hK:K≤15)
theorem Qr (n m:Nat) (P:Nat→Int) (S:MS) (k:Nat) (p:Int) (H:aa) (hk:k≤1000) (hm:m≤1000) (htr:∀ j,j<k→0≤oR (fun q i=>S.g2 [q,(i:Int)]) k p j∧oR (fun q i=>S.g2 [q,(i:Int)]) k p j<m) (hend:oR (fun q i=>S.g2 [q,(i:Int)]) k p k=-1) :
 ∃ fr lv,exec (bu (n+2) 79 156) (part Tryz.f79 [1,1,1,1,1,1,1]) (yI m P) (kf S [fb p (k:Nat),(0,.dead)]::H)=some (.ret,fr,lv::H)∧(match eS Tryz.prog fr (lv::H) Tryz.f79.results.toList with
  | some vs=>some (cX lv.bs 5 (one vs),H)
  | none=>none)=some (.tup [.int .i64 (S.g [p,(k:Int)]),dA (q8 (C4 P (fun q i=>S.g2 [q,(i:Int)]) k p) k).reverse],H):=by
 have hx:=PJ (n+2) m P S k p (S.g [p,(k:Int)]) H hk hm htr hend
 have hl:=lG (C4 P (fun q i=>S.g2 [q,(i:Int)]) k p) k
 generalize q8 (C4 P (fun q i=>S.g2 [q,(i:Int)]) k p) k=L at *
 cases L with
 | nil =>
   obtain ⟨x,h1,rfl⟩:=aE (Q:=fun x=>x=(.ret,[(4,.int .i64 (S.g [p,(k:Int)])),(5,.nils)],(dN S.h S.g S.c S.h2 S.g2 S.c2 [fb (-1) 0,(0,.dead),fb (-1) 0]:bx)::H)) (Qm (n+2) m P S.h S.g S.c S.h2 S.g2 S.c2 p (k:Nat) H) (cg _ (n+2) (bZ (aO _) (fun H=>Ll n H))) (bg (af _ _) Lf (fun x h=>by rw[← Tr.ab h];simp only[dG.st,aF];exact hx)) (ag _ _) (Tr.aB ⟨rfl,rfl⟩ (Tr.aB rfl (Tr.ao rfl)))
   exact ⟨_,_,h1,by kernel_rfl⟩
 | cons a r =>
   have hk1:k=r.length+1:=by simpa using hl.symm
   have h94:=fun H=>R5 (n+1) r.length (r.length+1) (bn (a::r)) S.h S.g S.c S.h2 S.g2 S.c2 (-1) 0 H (by omega) (by omega)
   have hrv:=Ih (a::r)
   simp only[List.length_cons] at hrv
   rw[hrv] at h94
   have hlr:(a::r).reverse.length=r.length+1:=by simp
   generalize (a::r).reverse=R at *
   cases R with
   | nil=>simp at hlr
   | cons a2 r2 =>
     simp only[List.length_cons,Nat.add_right_cancel_iff] at hlr
     obtain ⟨x,h1,rfl⟩:=aE (Q:=fun x=>x=(.ret,[(4,.int .i64 (S.g [p,(k:Int)])),(5,.slc 0 5 r.length 0 1 (r.length+1) none)],(dN S.h S.g S.c S.h2 S.g2 S.c2 [fb (-1) 0,(0,.dead),fb (-1) 0,(r.length,.row (.M [.arr .i64 (bn (a2::r2)) (r.length+1)]))]:bx)::H)) (Qk (n+2) m r.length (r.length+1) P (bn (a::r)) (bn (a2::r2)) S.h S.g S.c S.h2 S.g2 S.c2 p (k:Nat) H) (cg _ (n+2) (gh (aO _) (fun args G x hx=>by
      unfold Rr at hx
      obtain ⟨⟨rfl,rfl⟩,h2⟩:=Tr.cW hx
      rw[← Tr.ab h2]
      exact h94 H))) (bg (af _ _) Lf (fun x h=>by rw[← Tr.ab h];simp only[dG.st,aF];exact hx)) (ag _ _) (Tr.aB ⟨rfl,rfl⟩ (Tr.aB ⟨rfl,rfl⟩ (Tr.ao rfl)))
     refine ⟨_,_,h1,?_⟩
     rw[← hlr]
     have hres:eS Tryz.prog [(4,.int .i64 (S.g [p,(k:Int)])),(5,.slc 0 5 r2.length 0 1 (r2.length+1) none)] ((dN S.h S.g S.c S.h2 S.g2 S.c2 [fb (-1) 0,(0,.dead),fb (-1) 0,(r2.length,.row (.M [.arr .i64 (bn (a2::r2)) (r2.length+1)]))]:bx)::H) Tryz.f79.results.toList=some [.int .i64 (S.g [p,(k:Int)]),.slc 0 5 r2.length 0 1 (r2.length+1) none]:=by kernel_rfl
     rw[hres]
     show some (cX _ 5 (.tup [_,_]),H)=_
     simp[cX,aq,dN,fb,Row.sub,Row.len,aD,aN,gb,dA]
end
end Go.Eng
end
section
namespace Go.Eng
open Go.Proofs
open Go.Proofs.YtigmfpmabgekoaaGreat.Known (mostS mostL most navB bd79)
theorem L9:most.pre=[part Tryz.f79 [0],part Tryz.f79 [1,0],part Tryz.f79 [1,1,0],part Tryz.f79 [1,1,1,0],part Tryz.f79 [1,1,1,1,0],part Tryz.f79 [1,1,1,1,1,0]]:=by kernel_rfl
theorem Ma:most.suf=part Tryz.f79 [1,1,1,1,1,1,1]:=by kernel_rfl
theorem Ii {l:Nat} {z P:Nat→Int} (hP:∀ i,i<(bS l z).length→P i=(bS l z).getD i 0):q8 P (bS l z).length=bS l z:=by
 refine List.ext_getElem (lG _ _) (fun i h1 h2=>?_)
 have:=hP i h2
 rw[List.getD_eq_getElem?_getD,List.getElem?_eq_getElem h2] at this
 simp only[Option.getD_some] at this
 rw[← this]
 simp[q8]
theorem Fs {t:l9} (n:Nat) (h:t.Ok (cd n)):(il t n 0).Ok (cd n):=cg _ n h
section
variable {l K:Nat} {z:Nat→Int} (h:bD l z=0) (hK:K≤15)
include h hK
theorem Ro:∃ x:Int×List Int,Mo l z K x.1 x.2∧∀ (n s:Nat) (k1 k2 k3:Bool) (b1 b2 b3:List (Nat×aj)),cd (n+9) (.fn 79) [fT s l (oY z l),.int .i64 (K:Int)] [⟨k1,b1⟩,⟨k2,b2⟩,⟨k3,b3⟩]=some (.tup [.int .i64 x.1,dA x.2],[⟨k1,b1⟩,⟨k2,b2⟩,⟨k3,b3⟩]):=by
 obtain ⟨P0,hP0,h81⟩:=Lk l z h
 have hm14:=xK h
 have h92:=fun n H=>R3 n 0 (bS l z).length P0 H (by omega)
 rw[Ii hP0] at h92
 have hQ:∀ i,i<(bS l z).length→bn (bS l z) i=(bS l z).getD i 0:=fun i _=>by rw[g5]
 obtain ⟨p,k,hr,hk,htr,hend,hmo⟩:=L8 (K:=K) h rfl hQ
 refine ⟨(_,_),hmo,fun n s k1 k2 k3 b1 b2 b3=>?_⟩
 have hE:=JQ (a:=eR l z (bn (bS l z))) (K:=K) (bS l z).length
 have h00:(gf (eR l z (bn (bS l z))) K (bS l z).length cV).h [-1,0]=true:=((Bq (a:=eR l z (bn (bS l z))) (K:=K) (bS l z).length).2.1).1
 have hrev:=IC (bn (bS l z)) (fun q i=>(gf (eR l z (bn (bS l z))) K (bS l z).length cV).g2 [q,(i:Int)]) k p
 have hl79:=PI (n+5) s l (bS l z).length z (bn (bS l z)) [⟨k1,b1⟩,⟨k2,b2⟩,⟨k3,b3⟩] K h hK hm14
 generalize hQQ:bS l z=Q at *
 cases Q with
 | nil =>
   rw[show ([]:List Int).length=0 from rfl] at *
   have hk0:k=0:=by
    rcases Nat.eq_zero_or_pos k with e | e
    · exact e
    · have:=htr 0 e;omega
   subst hk0
   have hp1:p=-1:=hend
   subst hp1
   rw[if_pos rfl] at h81 h92
   obtain ⟨x,xa,rfl⟩:=aE (Q:=fun x=>x=(.normal,[(0,fT (s+1) l (oY z l)),(1,.int .i64 (K:Int))],an::[⟨k1,b1⟩,⟨k2,b2⟩,⟨k3,b3⟩])) (Me (n+8) s l (oY z l) (K:Int) [⟨k1,b1⟩,⟨k2,b2⟩,⟨k3,b3⟩]) (aC _) (af _ _) (ag _ _) (Tr.ao rfl)
   obtain ⟨x,xb,rfl⟩:=aE (Q:=fun x=>x=(.normal,[(0,fT (s+1) l (oY z l)),(1,.int .i64 (K:Int)),(6,.nils)],an::[⟨k1,b1⟩,⟨k2,b2⟩,⟨k3,b3⟩])) (Mf (n+8) s l 0 (oY z l) P0 (K:Int) [⟨k1,b1⟩,⟨k2,b2⟩,⟨k3,b3⟩]) (Fs _ (bZ (bZ (aO _) (fun H=>h81 n (s+1) H)) (fun H=>h92 (n+4) H))) (af _ _) (ag _ _) (Tr.aB rfl (Tr.aB rfl (Tr.ao rfl)))
   obtain ⟨x,xc,rfl⟩:=aE (Q:=fun x=>x=(.normal,[(0,fT (s+1) l (oY z l)),(1,.int .i64 (K:Int)),(6,.nils),(7,.map 0 0)],_::[⟨k1,b1⟩,⟨k2,b2⟩,⟨k3,b3⟩])) (Mg (n+8) s l 0 (oY z l) P0 (K:Int) [⟨k1,b1⟩,⟨k2,b2⟩,⟨k3,b3⟩]) (aC _) (af _ _) (ag _ _) (Tr.ao rfl)
   obtain ⟨x,xd,rfl⟩:=aE (Q:=fun x=>x=(.normal,[(0,fT (s+1) l (oY z l)),(1,.int .i64 (K:Int)),(6,.nils),(7,.map 0 0),(8,.map 0 1)],_::[⟨k1,b1⟩,⟨k2,b2⟩,⟨k3,b3⟩])) (Mh (n+8) s l 0 (oY z l) P0 (K:Int) _ _ _ [⟨k1,b1⟩,⟨k2,b2⟩,⟨k3,b3⟩]) (aC _) (af _ _) (ag _ _) (Tr.ao rfl)
   rw[FG] at xd
   obtain ⟨x,xe,rfl⟩:=aE (Q:=fun x=>x=(.normal,[(0,fT (s+1) l (oY z l)),(1,.int .i64 (K:Int)),(6,.nils),(7,.map 0 0),(8,.map 0 1),(32,.int .i64 (Int.ofNat 0)),(33,.int .i64 (Int.ofNat 0)),(34,.bool false)],kf cV []::[⟨k1,b1⟩,⟨k2,b2⟩,⟨k3,b3⟩])) (Mi (n+8) s l 0 (oY z l) P0 (K:Int) cV.h cV.g cV.c cV.h2 cV.g2 cV.c2 [⟨k1,b1⟩,⟨k2,b2⟩,⟨k3,b3⟩]) (aC _) (af _ _) (ag _ _) (Tr.ao rfl)
   obtain ⟨x,xf,rfl⟩:=aE (Q:=fun x=>x=(.normal,jU 0 P0,kf cV [fb (-1) 0]::[⟨k1,b1⟩,⟨k2,b2⟩,⟨k3,b3⟩])) (Ml (n+8) s l 0 (oY z l) P0 (K:Int) cV.h cV.g cV.c cV.h2 cV.g2 cV.c2 [⟨k1,b1⟩,⟨k2,b2⟩,⟨k3,b3⟩]) (aC _) (af _ _) (ag _ _) (Tr.ao rfl)
   have xr:eI (bu (n+8) 79 156) mostS mostL (jU 0 P0) (kf cV [fb (-1) 0]::[⟨k1,b1⟩,⟨k2,b2⟩,⟨k3,b3⟩])=some (Fc 0 P0,kf cV [fb (-1) 0,(0,.dead)]::[⟨k1,b1⟩,⟨k2,b2⟩,⟨k3,b3⟩]):=by
    unfold eI
    rw[rR (Ky (n+8) 0 P0 cV _ (-1,0)) rfl rfl]
    exact F1 (n+8) 0 P0 cV k1 k2 k3 b1 b2 b3 (-1,0) (-1,0) hE h00 hr
   obtain ⟨x,xs,rfl⟩:=aE (Q:=fun x=>x=(.ret,[(4,.int .i64 (cV.g [-1,0])),(5,.nils)],(dN cV.h cV.g cV.c cV.h2 cV.g2 cV.c2 [fb (-1) 0,(0,.dead),fb (-1) 0]:bx)::[⟨k1,b1⟩,⟨k2,b2⟩,⟨k3,b3⟩])) (Ql (n+8) cV.h cV.g cV.c cV.h2 cV.g2 cV.c2 [⟨k1,b1⟩,⟨k2,b2⟩,⟨k3,b3⟩]) (Fs _ (bZ (aO _) (fun H=>Ll (n+6) H))) (af _ _) (ag _ _) (by
    rw[b8,b8]
    exact Tr.al (fun hc=>by
     have:bL (g7 true true)=true:=hc
     simp (disch:=omega) only[nV,nW] at this) (fun _=>Tr.aB rfl (Tr.ao rfl)))
   refine Rv (n:=n+8) (fr:=[(4,.int .i64 (cV.g [-1,0])),(5,.nils)]) (lv:=dN cV.h cV.g cV.c cV.h2 cV.g2 cV.c2 [fb (-1) 0,(0,.dead),fb (-1) 0]) ?_ ?_
   · rw[L9,Ma]
     exact (fK xa).trans ((fK xb).trans ((fK xc).trans ((fK xd).trans ((fK xe).trans ((fK xf).trans ((FU xr).trans xs))))))
   · kernel_rfl
 | cons a r =>
   have e0:¬(a::r).length=0:=by simp
   rw[if_neg e0] at h81 h92
   have hdA:dA (a::r)=bc (a::r).length (bn (a::r)) false:=rfl
   rw[hdA] at h92
   generalize (a::r).length=m at *
   generalize bn (a::r)=P at *
   generalize gf (eR l z P) K m cV=S at *
   obtain ⟨x,xa,rfl⟩:=aE (Q:=fun x=>x=(.normal,[(0,fT (s+1) l (oY z l)),(1,.int .i64 (K:Int))],an::[⟨k1,b1⟩,⟨k2,b2⟩,⟨k3,b3⟩])) (Me (n+8) s l (oY z l) (K:Int) [⟨k1,b1⟩,⟨k2,b2⟩,⟨k3,b3⟩]) (aC _) (af _ _) (ag _ _) (Tr.ao rfl)
   obtain ⟨x,xb,rfl⟩:=aE (Q:=fun x=>x=(.normal,[(0,fT (s+1) l (oY z l)),(1,.int .i64 (K:Int)),(6,bc m P false)],an::[⟨k1,b1⟩,⟨k2,b2⟩,⟨k3,b3⟩])) (Qb (n+8) s l m (oY z l) P0 P (K:Int) [⟨k1,b1⟩,⟨k2,b2⟩,⟨k3,b3⟩]) (Fs _ (bZ (bZ (aO _) (fun H=>h81 n (s+1) H)) (fun H=>h92 (n+4) H))) (af _ _) (ag _ _) (Tr.aB rfl (Tr.aB rfl (Tr.ao rfl)))
   obtain ⟨x,xc,rfl⟩:=aE (Q:=fun x=>x=(.normal,[(0,fT (s+1) l (oY z l)),(1,.int .i64 (K:Int)),(6,bc m P false),(7,.map 0 0)],_::[⟨k1,b1⟩,⟨k2,b2⟩,⟨k3,b3⟩])) (Qc (n+8) s l m (oY z l) P (K:Int) [⟨k1,b1⟩,⟨k2,b2⟩,⟨k3,b3⟩]) (aC _) (af _ _) (ag _ _) (Tr.ao rfl)
   obtain ⟨x,xd,rfl⟩:=aE (Q:=fun x=>x=(.normal,IT s l m (oY z l) P (K:Int),_::[⟨k1,b1⟩,⟨k2,b2⟩,⟨k3,b3⟩])) (Qd (n+8) s l m (oY z l) P (K:Int) _ _ _ [⟨k1,b1⟩,⟨k2,b2⟩,⟨k3,b3⟩]) (aC _) (af _ _) (ag _ _) (Tr.ao rfl)
   rw[FG] at xd
   obtain ⟨x,xe,rfl⟩:=aE (Q:=fun x=>x=(.normal,tn s l m (oY z l) P K (Int.ofNat m)++[(34,.bool false)],kf S []::[⟨k1,b1⟩,⟨k2,b2⟩,⟨k3,b3⟩])) (PX (n+8) s l m (oY z l) P (K:Int) cV.h cV.g cV.c cV.h2 cV.g2 cV.c2 S.h S.g S.c S.h2 S.g2 S.c2 [⟨k1,b1⟩,⟨k2,b2⟩,⟨k3,b3⟩]) (aC _) (bg (af _ _) NZ (fun x h=>by rw[← Tr.ab h];simp only[dG.st,aF];exact hl79)) (ag _ _) (Tr.aB ⟨rfl,rfl⟩ (Tr.ao rfl))
   obtain ⟨x,xf,rfl⟩:=aE (Q:=fun x=>x=(.normal,nH m P,kf S [fb (-1) 0]::[⟨k1,b1⟩,⟨k2,b2⟩,⟨k3,b3⟩])) (PY (n+8) s l m (oY z l) P (K:Int) S.h S.g S.c S.h2 S.g2 S.c2 [⟨k1,b1⟩,⟨k2,b2⟩,⟨k3,b3⟩]) (aC _) (af _ _) (ag _ _) (Tr.ao rfl)
   have xr:eI (bu (n+8) 79 156) mostS mostL (nH m P) (kf S [fb (-1) 0]::[⟨k1,b1⟩,⟨k2,b2⟩,⟨k3,b3⟩])=some (yI m P,kf S [fb p (k:Nat),(0,.dead)]::[⟨k1,b1⟩,⟨k2,b2⟩,⟨k3,b3⟩]):=by
    unfold eI
    rw[rR (Mk (n+8) m P S _ (-1,0)) rfl rfl]
    exact H9 (n+8) m P S k1 k2 k3 b1 b2 b3 (-1,0) (p,(k:Int)) hE h00 hr
   obtain ⟨fr,lv,xs,xv⟩:=Qr (n+6) m P S k p [⟨k1,b1⟩,⟨k2,b2⟩,⟨k3,b3⟩] (by omega) (by omega) htr hend
   rw[show (q8 (C4 P (fun q i=>S.g2 [q,(i:Int)]) k p) k).reverse=Ay P (fun q i=>S.g2 [q,(i:Int)]) k p from hrev] at xv
   refine Rv (n:=n+8) (fr:=fr) (lv:=lv) ?_ xv
   rw[L9,Ma]
   exact (fK xa).trans ((fK xb).trans ((fK xc).trans ((fK xd).trans ((fK xe).trans ((fK xf).trans ((FU xr).trans xs))))))
end
end Go.Eng
end
section
namespace Go.Eng
open Go.Proofs
noncomputable def oO (l:Nat) (y:Nat→Int):AV:=.ptrT (some 0) (.G [ay 7 l y]) 0
noncomputable def NI (B W:AV) (q M:Int) (args:List AV) (H:aa):Tr (AV×aa) :=
 match H with
 | [⟨_,_⟩,⟨_,_⟩,⟨_,_⟩]=>.reqP (args=[B,.int .i64 q]) (.ok (.tup [.int .i64 M,W],H))
 | _=>.bad
theorem Uq (n l:Nat) (z y:Nat→Int) (q:Int) (H:aa):bt Tryz.prog (cd n) 100000 78 Tryz.f78 (KtB.kt 78) (il (tX aI 52 [ay 5 l z] (.tup [oO l y,.int .i64 0])) n 0) aP aQ [(ay 5 l z,none),(.int .i64 q,none)] H =
 Tr.reqP ([ay 5 l z]=[ay 5 l z]) (Tr.ite (bL (c5 (Int.ofNat 0) (Int.ofNat 0))) (Tr.ok ((AV.tup [AV.nilp,AV.int .i64 (Int.ofNat 0)],none),H)) (Tr.ite (cn q (Int.ofNat 0)) (Tr.ok ((AV.tup [AV.nilp,AV.int .i64 (Int.ofNat 2)],none),H)) (Tr.ite (cn (Int.ofNat 14) q) (Tr.ok ((AV.tup [AV.nilp,AV.int .i64 (Int.ofNat 2)],none),H)) (Tr.ok ((AV.tup [AV.ptrT (some 0) (Row.G [ay 7 l y]) 0,AV.int .i64 (Int.ofNat 0)],none),H))))):=by kernel_rfl
theorem QW (n l:Nat) (z:Nat→Int) (q e:Int) (H:aa):bt Tryz.prog (cd n) 100000 78 Tryz.f78 (KtB.kt 78) (il (tX aI 52 [ay 5 l z] (.tup [.nilp,.int .i64 e])) n 0) aP aQ [(ay 5 l z,none),(.int .i64 q,none)] H =
 Tr.reqP ([ay 5 l z]=[ay 5 l z]) (Tr.ite (bL (c5 e (Int.ofNat 0))) (Tr.ok ((AV.tup [AV.nilp,AV.int .i64 e],none),H)) (Tr.ite (cn q (Int.ofNat 0)) (Tr.ok ((AV.tup [AV.nilp,AV.int .i64 (Int.ofNat 2)],none),H)) (Tr.ite (cn (Int.ofNat 14) q) (Tr.ok ((AV.tup [AV.nilp,AV.int .i64 (Int.ofNat 2)],none),H)) (Tr.ok ((AV.tup [AV.nilp,AV.int .i64 (Int.ofNat 0)],none),H))))):=by kernel_rfl
theorem QK (n l k:Nat) (z y b:Nat→Int) (q M:Int) (k1 k2:Bool) (b1 b2:List (Nat×aj)):bt Tryz.prog (cd n) 100000 36 Tryz.f36 (KtB.kt 36) (il (dI (tX aI 78 [ay 5 l z,.int .i64 q] (.tup [oO l y,.int .i64 0])) 79 (NI (oO l y) (bc k b false) q M)) n 0) aP aQ [(ay 5 l z,none),(.int .i64 q,none)] [⟨k1,b1⟩,⟨k2,b2⟩] =
 Tr.reqP ([ay 5 l z,AV.int .i64 q]=[ay 5 l z,AV.int .i64 q]) (Tr.ite (bL (c5 (Int.ofNat 0) (Int.ofNat 0))) (Tr.ok ((AV.tup [AV.int .i64 (Int.ofNat 0),AV.nils,AV.int .i64 (Int.ofNat 0)],none),[{ lock:=k1,bs:=b1 },{ lock:=k2,bs:=b2 }])) (Tr.reqP ([AV.ptrT (some 0) (Row.G [ay 7 l y]) 0,AV.int .i64 q]=[AV.ptrT (some 0) (Row.G [ay 7 l y]) 0,AV.int .i64 q]) (Tr.ok ((AV.tup [AV.int .i64 M,AV.slcT none (Row.M [aM.arr .i64 b k]) 1 k false,AV.int .i64 (Int.ofNat 0)],none),[{ lock:=k1,bs:=b1 },{ lock:=k2,bs:=b2 }])))):=by kernel_rfl
theorem QM (n l:Nat) (z y:Nat→Int) (q M:Int) (k1 k2:Bool) (b1 b2:List (Nat×aj)):bt Tryz.prog (cd n) 100000 36 Tryz.f36 (KtB.kt 36) (il (dI (tX aI 78 [ay 5 l z,.int .i64 q] (.tup [oO l y,.int .i64 0])) 79 (NI (oO l y) .nils q M)) n 0) aP aQ [(ay 5 l z,none),(.int .i64 q,none)] [⟨k1,b1⟩,⟨k2,b2⟩] =
 Tr.reqP ([ay 5 l z,AV.int .i64 q]=[ay 5 l z,AV.int .i64 q]) (Tr.ite (bL (c5 (Int.ofNat 0) (Int.ofNat 0))) (Tr.ok ((AV.tup [AV.int .i64 (Int.ofNat 0),AV.nils,AV.int .i64 (Int.ofNat 0)],none),[{ lock:=k1,bs:=b1 },{ lock:=k2,bs:=b2 }])) (Tr.reqP ([AV.ptrT (some 0) (Row.G [ay 7 l y]) 0,AV.int .i64 q]=[AV.ptrT (some 0) (Row.G [ay 7 l y]) 0,AV.int .i64 q]) (Tr.ok ((AV.tup [AV.int .i64 M,AV.nils,AV.int .i64 (Int.ofNat 0)],none),[{ lock:=k1,bs:=b1 },{ lock:=k2,bs:=b2 }])))):=by kernel_rfl
theorem QL (n l:Nat) (z:Nat→Int) (q e:Int) (H:aa):bt Tryz.prog (cd n) 100000 36 Tryz.f36 (KtB.kt 36) (il (tX aI 78 [ay 5 l z,.int .i64 q] (.tup [.nilp,.int .i64 e])) n 0) aP aQ [(ay 5 l z,none),(.int .i64 q,none)] H =
 Tr.reqP ([ay 5 l z,AV.int .i64 q]=[ay 5 l z,AV.int .i64 q]) (Tr.ite (bL (c5 e (Int.ofNat 0))) (Tr.ok ((AV.tup [AV.int .i64 (Int.ofNat 0),AV.nils,AV.int .i64 e],none),H)) Tr.bad):=by kernel_rfl
end Go.Eng
end
