/- Bath: the plain law of the fewest baths: they do all orders, and orders that are apart are never more than baths that do them. -/
import Derived.Test.YtigmfpmabgekoaaGreatV9Bd2x10
import Derived.Test.YtigmfpmabgekoaaGreatV9Ba3x25
set_option linter.unusedVariables false
set_option linter.unusedSimpArgs false
set_option maxRecDepth 100000
section
namespace Go.Eng
open Go.Proofs
theorem Cn {L:List Int} {x:Int} (h:x ∈ L):∃ j,j<L.length∧bn L j=x:=by
 obtain ⟨j,hj,rfl⟩:=List.getElem_of_mem h
 exact ⟨j,hj,by rw[tJ,List.getD_eq_getElem?_getD,List.getElem?_eq_getElem hj];rfl⟩
theorem xI (z:Nat→Int) (b x:Int):pB z b x=true↔bE z x.toNat≤b∧b≤bG z x.toNat:=by
 unfold pB sf;rw[Bool.and_eq_true,decide_eq_true_eq,decide_eq_true_eq]
end Go.Eng
end
section
namespace Go.Eng
open Go.Proofs
end Go.Eng
end
section
namespace Go.Eng
open Go.Proofs
section
variable (n l p:Nat) (z x:Nat→Int) (H:aa) (w:Int)
end
end Go.Eng
end
section
namespace Go.Eng
open Go.Proofs
section
variable (n l:Nat) (z:Nat→Int) (H:aa) (w:Int)
end
end Go.Eng
end
section
namespace Go.Eng
open Go.Proofs
theorem JR {p:Nat→Bool} {k:Nat} (h:∀ j,j<k→p j=false):gB p k=false:=by
 cases e:gB p k with
 | false=>rfl
 | true =>
   obtain ⟨j,hj,e2⟩:=(dv _ _).1 e
   rw[h j hj] at e2;cases e2
theorem G6 {p:Nat→Bool} {k:Nat} (h:¬ gB p k=true):∀ j,j<k→p j=false:=fun j hj=>by
 cases e:p j with
 | false=>rfl
 | true=>exact absurd ((dv _ _).2 ⟨j,hj,e⟩) h
theorem Ge (L:List Int):(jr L).Perm L:=List.mergeSort_perm L _
theorem KO (L:List Int):(jr L).Pairwise (·≤·):=by
 have:=List.pairwise_mergeSort (le:=fun x y:Int=>decide (x≤y)) (fun a b c h1 h2=>by simp only[decide_eq_true_eq] at *;omega) (fun a b=>by simp only[Bool.or_eq_true,decide_eq_true_eq];omega) L
 exact this.imp (fun h=>by simpa using h)
theorem Fy (S:List Int) (j:Nat) (hj:j<S.length):bn S j=S[j]:=by
 rw[tJ,List.getD_eq_getElem?_getD,List.getElem?_eq_getElem hj];rfl
end Go.Eng
end
section
namespace Go.Eng
open Go.Proofs
noncomputable def oc (v m:Nat) (k:Int):av:=[(0,.slc 1 0 v 0 1 m none),(3,.int .i64 k)]
noncomputable def ry (v m o len:Nat) (k j:Int):av:=[(0,.slc 1 0 v 0 1 m none),(3,.int .i64 k),(4,.slc 1 0 v o 1 len none),(5,.int .i64 j)]
theorem Nf (n v m o len:Nat) (a:Nat→Int) (H:aa) (k j:Int):aK (bu n 97 61) (il aI n 0) aP aQ (part Tryz.f97 [1,1,0,1,0,0,1,0,0,1,0,1,0,1,0,0]) (hints (ry v m o len k j)) (an::⟨false,[(v,.row (.M [.arr .i64 a m]))]⟩::H) =
 Tr.ite (cn j (Int.ofNat len)) (Tr.req (cU j len) (Tr.req (dS v v) (Tr.req (bB (aw o j 1) m) (Tr.req (cU (bQ .i64 j (Int.ofNat 1)) len) (Tr.req (dS v v) (Tr.req (bB (aw o (bQ .i64 j (Int.ofNat 1)) 1) m) (Tr.ite (bL (c5 (a (aw o j 1)) (a (aw o (bQ .i64 j (Int.ofNat 1)) 1)))) (Tr.req (cU j len) (Tr.req (dS v v) (Tr.req (bB (aw o j 1) m) (Tr.req (cU k m) (Tr.req (dS v v) (Tr.req (bB (aw 0 k 1) m) (Tr.ok (Ex.normal,[(0,AV.slc 1 0 v 0 1 m none,none),(3,AV.int .i64 (aS .i64 k (Int.ofNat 1)),none),(4,AV.slc 1 0 v o 1 len none,none),(5,AV.int .i64 (aS .i64 j (Int.ofNat 1)),none)],an::{ lock:=false,bs:=[(v,aj.row (Row.M [aM.arr .i64 (fz a (aw 0 k 1) (a (aw o j 1))) m]))] } :: H)))))))) (Tr.ok (Ex.normal,[(0,AV.slc 1 0 v 0 1 m none,none),(3,AV.int .i64 k,none),(4,AV.slc 1 0 v o 1 len none,none),(5,AV.int .i64 (aS .i64 j (Int.ofNat 1)),none)],an::{ lock:=false,bs:=[(v,aj.row (Row.M [aM.arr .i64 a m]))] } :: H))))))))) (Tr.ok (Ex.exit 2,[(0,AV.slc 1 0 v 0 1 m none,none),(3,AV.int .i64 k,none),(4,AV.slc 1 0 v o 1 len none,none),(5,AV.int .i64 j,none),(32,AV.bool false,some 1)],an::{ lock:=false,bs:=[(v,aj.row (Row.M [aM.arr .i64 a m]))] } :: H)):=by kernel_rfl
theorem Ja (n v m:Nat) (a:Nat→Int) (H:aa) (k:Int):aK (bu n 97 61) (il aI n 0) (lY aP 2) aQ (part Tryz.f97 [1,1,0,1,0,0]) (hints (oc v m k)) (an::⟨false,[(v,.row (.M [.arr .i64 a m]))]⟩::H) =
 Tr.ite (cn k (Int.ofNat m)) (Tr.req (cU k m) (Tr.req (dS v v) (Tr.req (bB (aw 0 k 1) m) (Tr.req (cU (bQ .i64 k (Int.ofNat 1)) m) (Tr.req (dS v v) (Tr.req (bB (aw 0 (bQ .i64 k (Int.ofNat 1)) 1) m) (Tr.ite (c5 (a (aw 0 k 1)) (a (aw 0 (bQ .i64 k (Int.ofNat 1)) 1))) (Tr.req (nX k m) Tr.bad) (Tr.ok (Ex.normal,[(0,AV.slc 1 0 v 0 1 m none,none),(3,AV.int .i64 (aS .i64 k (Int.ofNat 1)),none)],an::{ lock:=false,bs:=[(v,aj.row (Row.M [aM.arr .i64 a m]))] } :: H))))))))) (Tr.ok (Ex.exit 0,[(0,AV.slc 1 0 v 0 1 m none,none),(3,AV.int .i64 k,none),(13,AV.bool false,some 1)],an::{ lock:=false,bs:=[(v,aj.row (Row.M [aM.arr .i64 a m]))] } :: H)):=by kernel_rfl
theorem QC (n v m o len:Nat) (a b:Nat→Int) (H:aa) (k x:Int):aK (bu n 97 61) (il aI n 0) (dJ aP 2 (ry v m o len k (Int.ofNat 1)) (an::⟨false,[(v,.row (.M [.arr .i64 a m]))]⟩::H) (.ok (.normal,hints (ry v m o len x (Int.ofNat len)++[(32,.bool false)]),an::⟨false,[(v,.row (.M [.arr .i64 b m]))]⟩::H))) aQ (part Tryz.f97 [1,1,0,1,0,0]) (hints (oc v m k)) (an::⟨false,[(v,.row (.M [.arr .i64 a m]))]⟩::H) =
 (fun (Z0:bx)=>Tr.ite (cn k (Int.ofNat m)) (Tr.req (cU k m) (Tr.req (dS v v) (Tr.req (bB (aw 0 k 1) m) (Tr.req (cU (bQ .i64 k (Int.ofNat 1)) m) (Tr.req (dS v v) (Tr.req (bB (aw 0 (bQ .i64 k (Int.ofNat 1)) 1) m) (Tr.ite (c5 (a (aw 0 k 1)) (a (aw 0 (bQ .i64 k (Int.ofNat 1)) 1))) (Tr.req (nX k m) (Tr.reqP ([(0,AV.slc 1 0 v 0 1 m none),(3,AV.int .i64 k),(4,AV.slc 1 0 v (ak 0 (fc k)) 1 (eD m (fc k)) none),(5,AV.int .i64 (Int.ofNat 1))]=[(0,AV.slc 1 0 v 0 1 m none),(3,AV.int .i64 k),(4,AV.slc 1 0 v o 1 len none),(5,AV.int .i64 (Int.ofNat 1))]∧an::Z0::H=an::Z0::H) (Tr.req (nX x m) (Tr.req (bB 0 (eD m (fc x))) (Tr.req (dS v v) (Tr.req (rF (ak 0 (fc x)) (eD m (fc x)) 0 m) (Tr.req (nX x m) (Tr.ok (Ex.ret,[(2,AV.slc 1 0 v 0 1 (fc x) none,none)],an::{ lock:=false,bs:=[(v,aj.row (Row.M [aM.arr .i64 (ff b (ak 0 (fc x)) (fun x=>Int.ofNat 0) (eD m (fc x))) m]))] } :: H))))))))) (Tr.ok (Ex.normal,[(0,AV.slc 1 0 v 0 1 m none,none),(3,AV.int .i64 (aS .i64 k (Int.ofNat 1)),none)],an::Z0::H))))))))) (Tr.ok (Ex.exit 0,[(0,AV.slc 1 0 v 0 1 m none,none),(3,AV.int .i64 k,none),(13,AV.bool false,some 1)],an::Z0::H))) { lock:=false,bs:=[(v,aj.row (Row.M [aM.arr .i64 a m]))] }:=by kernel_rfl
theorem Q2 (n v m:Nat) (a b:Nat→Int) (H:aa) (x:Nat):bt Tryz.prog (cd n) 100000 97 Tryz.f97 (KtB.kt 97) (il aI n 0) (dJ aP 0 (oc v m (Int.ofNat 1)) (an::⟨false,[(v,.row (.M [.arr .i64 a m]))]⟩::H) (.ok (.ret,hints [(2,.slc 1 0 v 0 1 x none)],an::⟨false,[(v,.row (.M [.arr .i64 b m]))]⟩::H))) aQ [(.slc 0 0 v 0 1 m none,none)] (⟨false,[(v,.row (.M [.arr .i64 a m]))]⟩::H) =
 (fun (Z0:bx)=>Tr.ite (cn (Int.ofNat m) (Int.ofNat 2)) (Tr.ok ((AV.slc 0 0 v 0 1 m none,none),Z0::H)) (Tr.reqP ([(0,AV.slc 1 0 v 0 1 m none),(3,AV.int .i64 (Int.ofNat 1))]=[(0,AV.slc 1 0 v 0 1 m none),(3,AV.int .i64 (Int.ofNat 1))]∧an::Z0::H=an::Z0::H) (Tr.ok ((AV.slc 0 0 v 0 1 x none,none),{ lock:=false,bs:=[(v,aj.row (Row.M [aM.arr .i64 b m]))] } :: H)))) { lock:=false,bs:=[(v,aj.row (Row.M [aM.arr .i64 a m]))] }:=by kernel_rfl
theorem Q4 (n v m:Nat) (a:Nat→Int) (H:aa):bt Tryz.prog (cd n) 100000 97 Tryz.f97 (KtB.kt 97) (il aI n 0) (lY aP 0) aQ [(.slc 0 0 v 0 1 m none,none)] (⟨false,[(v,.row (.M [.arr .i64 a m]))]⟩::H) =
 Tr.ite (cn (Int.ofNat m) (Int.ofNat 2)) (Tr.ok ((AV.slc 0 0 v 0 1 m none,none),{ lock:=false,bs:=[(v,aj.row (Row.M [aM.arr .i64 a m]))] } :: H)) Tr.bad:=by kernel_rfl
theorem Q3 (n v m:Nat) (a:Nat→Int) (H:aa):bt Tryz.prog (cd n) 100000 97 Tryz.f97 (KtB.kt 97) (il aI n 0) (dJ aP 0 (oc v m (Int.ofNat 1)) (an::⟨false,[(v,.row (.M [.arr .i64 a m]))]⟩::H) (.ok (.normal,hints (oc v m (Int.ofNat m)++[(13,.bool false)]),an::⟨false,[(v,.row (.M [.arr .i64 a m]))]⟩::H))) aQ [(.slc 0 0 v 0 1 m none,none)] (⟨false,[(v,.row (.M [.arr .i64 a m]))]⟩::H) =
 (fun (Z0:bx)=>Tr.ite (cn (Int.ofNat m) (Int.ofNat 2)) (Tr.ok ((AV.slc 0 0 v 0 1 m none,none),Z0::H)) (Tr.reqP ([(0,AV.slc 1 0 v 0 1 m none),(3,AV.int .i64 (Int.ofNat 1))]=[(0,AV.slc 1 0 v 0 1 m none),(3,AV.int .i64 (Int.ofNat 1))]∧an::Z0::H=an::Z0::H) (Tr.ok ((AV.slc 0 0 v 0 1 m none,none),Z0::H)))) { lock:=false,bs:=[(v,aj.row (Row.M [aM.arr .i64 a m]))] }:=by kernel_rfl
theorem Ri:∀ b,(0,b) ∈ aV (bM Tryz.f97)→b=.loop (part Tryz.f97 [1,1,0,1,0,0]):=fM (by kernel_rfl)
theorem N3:∀ b,(2,b) ∈ aV (part Tryz.f97 [1,1,0,1,0,0])→b=.loop (part Tryz.f97 [1,1,0,1,0,0,1,0,0,1,0,1,0,1,0,0]):=fM (by kernel_rfl)
def oQ (a:Nat→Int):Nat→List Int
 | 0=>[]
 | j+1=>if j=0∨a j≠a (j-1) then oQ a j++[a j] else oQ a j
noncomputable def iq (a:Nat→Int) (k0:Nat):Nat→(Nat→Int)×Nat
 | 0=>(a,k0)
 | i+1=>if (iq a k0 i).1 (k0+(i+1))≠(iq a k0 i).1 (k0+i) then (fz (iq a k0 i).1 (iq a k0 i).2 ((iq a k0 i).1 (k0+(i+1))),(iq a k0 i).2+1) else iq a k0 i
theorem wX (a:Nat→Int):∀ j,(oQ a j).length≤j
 | 0=>Nat.le_refl _
 | j+1=>by
   have:=wX a j
   unfold oQ
   split
   · rw[List.length_append,List.length_singleton];omega
   · omega
theorem wY (a:Nat→Int):∀ k,(∀ j,j+1<k→a (j+1)≠a j)→oQ a k=(List.range k).map a
 | 0,_=>rfl
 | k + 1,h=>by
   unfold oQ
   rw[if_pos,wY a k (fun j hj=>h j (by omega)),List.range_succ,List.map_append]
   · rfl
   · by_cases e:k=0
     · exact .inl e
     · have:=h (k-1) (by omega)
       rw[show k-1+1=k by omega] at this
       exact .inr this
theorem mZ {a:Nat→Int} {k0:Nat} (hk:1≤k0) (hd:a k0=a (k0-1)) (hn:∀ j,j+1<k0→a (j+1)≠a j):∀ i,(iq a k0 i).2=(oQ a (k0+i+1)).length∧(∀ x,x<(iq a k0 i).2→(iq a k0 i).1 x=(oQ a (k0+i+1)).getD x 0)∧(∀ x,k0+i≤x→(iq a k0 i).1 x=a x)∧(iq a k0 i).2≤k0+i
 | 0 => by
   have e:oQ a (k0+0+1)=oQ a k0:=by
    have hnc:¬(k0=0∨a k0≠a (k0-1)):=by
     rintro (c | c)
     · omega
     · exact c hd
    exact if_neg hnc
   rw[e,wY a k0 hn]
   refine ⟨by simp[iq],fun x hx=>?_,fun x _=>rfl,Nat.le_refl _⟩
   have hx:x<k0:=hx
   rw[List.getD_eq_getElem?_getD,List.getElem?_map,List.getElem?_range hx]
   rfl
 | i + 1=>by
   obtain ⟨i1,i2,i3,i4⟩:=mZ hk hd hn i
   have r1:=i3 (k0+(i+1)) (by omega)
   have r2:=i3 (k0+i) (Nat.le_refl _)
   have e:oQ a (k0+(i+1)+1)=if a (k0+(i+1))≠a (k0+i) then oQ a (k0+i+1)++[a (k0+(i+1))] else oQ a (k0+i+1):=by
    show (if k0+(i+1)=0∨a (k0+(i+1))≠a (k0+(i+1)-1) then oQ a (k0+(i+1))++_ else oQ a (k0+(i+1)))=_
    rw[show k0+(i+1)-1=k0+i by omega,show k0+(i+1)=k0+i+1 by omega]
    by_cases c:a (k0+i+1)≠a (k0+i)
    · rw[if_pos (.inr c),if_pos c]
    · rw[if_neg (by rintro (d | d);omega;exact c d),if_neg c]
   have es:iq a k0 (i+1)=if a (k0+(i+1))≠a (k0+i) then (fz (iq a k0 i).1 (iq a k0 i).2 (a (k0+(i+1))),(iq a k0 i).2+1) else iq a k0 i:=by
    show (if (iq a k0 i).1 (k0+(i+1))≠(iq a k0 i).1 (k0+i) then (fz (iq a k0 i).1 (iq a k0 i).2 ((iq a k0 i).1 (k0+(i+1))),_) else _)=_
    rw[r1,r2]
   rw[e,es]
   by_cases c:a (k0+(i+1))≠a (k0+i)
   · rw[if_pos c,if_pos c]
     refine ⟨by rw[List.length_append,List.length_singleton,i1],fun x hx=>?_,fun x hx=>?_,by show (iq a k0 i).2+1≤_;omega⟩
     · have hx:x<(iq a k0 i).2+1:=hx
       show fz _ _ _ x=_
       rw[lM]
       dsimp only
       rw[List.getD_eq_getElem?_getD]
       by_cases ex:x=(iq a k0 i).2
       · rw[if_pos ex,List.getElem?_append_right (by omega),← i1,ex,Nat.sub_self];rfl
       · rw[if_neg ex,i2 x (by omega),List.getElem?_append_left (by omega),List.getD_eq_getElem?_getD]
     · show fz _ _ _ x=_
       rw[lM]
       dsimp only
       rw[if_neg (by omega)]
       exact i3 x (by omega)
   · rw[if_neg c,if_neg c]
     exact ⟨i1,i2,fun x hx=>i3 x (by omega),by omega⟩
section
variable (n v m:Nat) (a:Nat→Int) (H:aa)
theorem PN (k0:Nat) (hk:1≤k0) (hm:k0<m) (h2:m≤1000) (hd:a k0=a (k0-1)) (hn:∀ j,j+1<k0→a (j+1)≠a j):exec (bu n 97 61) (.block 2 (.loop (part Tryz.f97 [1,1,0,1,0,0,1,0,0,1,0,1,0,1,0,0]))) (ry v m k0 (m-k0) (k0:Nat) (Int.ofNat 1)) (an::⟨false,[(v,.row (.M [.arr .i64 a m]))]⟩::H) =
 some (.normal,ry v m k0 (m-k0) ((iq a k0 (m-k0-1)).2:Nat) (Int.ofNat (m-k0))++[(32,.bool false)],an::⟨false,[(v,.row (.M [.arr .i64 (iq a k0 (m-k0-1)).1 m]))]⟩::H):=by
 refine jz 2 (fun j=>ry v m k0 (m-k0) ((iq a k0 j).2:Nat) ((j+1:Nat):Int)) (fun j=>an::⟨false,[(v,.row (.M [.arr .i64 (iq a k0 j).1 m]))]⟩::H) (m-k0-1) (ry v m k0 (m-k0) ((iq a k0 (m-k0-1)).2:Nat) (Int.ofNat (m-k0))++[(32,.bool false)],an::⟨false,[(v,.row (.M [.arr .i64 (iq a k0 (m-k0-1)).1 m]))]⟩::H) (by omega) (fun j hj=>?_) ?_
 · obtain ⟨_,_,_,i4⟩:=mZ hk hd hn j
   have es:iq a k0 (j+1)=if (iq a k0 j).1 (k0+(j+1))≠(iq a k0 j).1 (k0+j) then (fz (iq a k0 j).1 (iq a k0 j).2 ((iq a k0 j).1 (k0+(j+1))),(iq a k0 j).2+1) else iq a k0 j:=rfl
   generalize iq a k0 (j+1)=T at *
   generalize iq a k0 j=S0 at *
   obtain ⟨r,k⟩:=S0
   dsimp only at es i4 ⊢
   refine aE (Nf n v m k0 (m-k0) r H (k:Nat) ((j+1:Nat):Int)) (aC n) (af _ _) (ag _ _) ?_
   have e1:aw k0 ((j+1:Nat):Int) 1=k0+(j+1):=by rw[bA];omega
   have e2:bQ .i64 ((j+1:Nat):Int) (Int.ofNat 1)=(j:Int):=by rw[cG,show Int.ofNat 1=1 from rfl,cq (by omega) (by omega)];omega
   have e3:aw k0 (j:Int) 1=k0+j:=by rw[bA];omega
   have e4:aw 0 (k:Int) 1=k:=DG k
   have e5:aS .i64 ((j+1:Nat):Int) (Int.ofNat 1)=((j+1+1:Nat):Int):=iu (by omega)
   have e6:aS .i64 (k:Int) (Int.ofNat 1)=((k+1:Nat):Int):=iu (by omega)
   rw[e1,e2,e3,e4,e5,e6,b8]
   by_cases c:r (k0+(j+1))=r (k0+j)
   · rw[if_neg (by simpa using c)] at es
     subst es
     rw[show (r (k0+(j+1)) == r (k0+j))=true from beq_iff_eq.2 c]
     exact wF
   · rw[if_pos c] at es
     subst es
     rw[show (r (k0+(j+1)) == r (k0+j))=false from beq_eq_false_iff_ne.2 c]
     exact wF
 · obtain ⟨_,_,_,i4⟩:=mZ hk hd hn (m-k0-1)
   rw[show m-k0-1+1=m-k0 by omega]
   obtain ⟨x,h1,rfl⟩:=aE (Q:=fun x=>x=(.exit 2,ry v m k0 (m-k0) ((iq a k0 (m-k0-1)).2:Nat) (Int.ofNat (m-k0))++[(32,.bool false)],an::⟨false,[(v,.row (.M [.arr .i64 (iq a k0 (m-k0-1)).1 m]))]⟩::H)) (Nf n v m k0 (m-k0) (iq a k0 (m-k0-1)).1 H ((iq a k0 (m-k0-1)).2:Nat) (Int.ofNat (m-k0))) (aC n) (af _ _) (ag _ _) (by
    exact wF)
   exact h1
theorem EU {n f nt:Nat} {c:Code} (id:Nat) (F:Nat→av) (G:Nat→aa) (N:Nat) (p:Nat→Bool) (X:Nat→av×aa) (Y:av×aa) (hN:N<99999)
 (hs:∀ j,j<N→(∀ i,i<j→p i=false)→∃ x,exec (bu n f nt) c (F j) (G j)=some x∧if p j=true then x=(.ret,X j) else x.1=.normal∧tidy (ar (G 0)) x.2.1 x.2.2=(F (j+1),G (j+1)))
 (he:exec (bu n f nt) c (F N) (G N)=some (.exit id,Y)):exec (bu n f nt) (.block id (.loop c)) (F 0) (G 0)=some (cond (gB p N) (.ret,X (fN p N 0)) (.normal,Y)):=by
 cases hc:gB p N with
 | false =>
   have hno:∀ j,j<N→p j=false:=fun j hj=>by
    cases h:p j with
    | false=>rfl
    | true=>rw[(dv p N).2 ⟨j,hj,h⟩] at hc;cases hc
   refine jz id F G N Y hN (fun j hj=>?_) he
   obtain ⟨x,h1,h2⟩:=hs j hj (fun i hi=>hno i (by omega))
   rw[if_neg (by rw[hno j hj];decide)] at h2
   exact ⟨x,h1,h2⟩
 | true =>
   have hJ:=ky hc
   obtain ⟨_,_,k3,k4⟩:=m9 p N 0
   have k4:=k4 (by omega)
   have k3:∀ i,i<fN p N 0→p i=false:=fun i hi=>k3 i (Nat.zero_le _) hi
   obtain ⟨x,h1,h2⟩:=hs _ hJ k3
   rw[if_pos k4] at h2
   subst h2
   have e0:gB (fun _=>false) (fN p N 0)=false:=by
    cases h:gB (fun _=>false) (fN p N 0) with
    | false=>rfl
    | true=>obtain ⟨_,_,h⟩:=(dv _ _).1 h;cases h
   have key:=ng (body:=exec (bu n f nt) c) (n:=ar (G 0)) F G (fN p N 0) (fun _=>false) (fun _=>(.ret,X (fN p N 0)))
    (fun j hj _=>by
      obtain ⟨x,h1,h2⟩:=hs j (by omega) (fun i hi=>k3 i (by omega))
      rw[if_neg (by rw[k3 j hj];decide)] at h2
      obtain ⟨e,f1,g1⟩:=x
      obtain ⟨rfl,h3⟩:=h2
      exact ⟨_,_,h1,h3⟩)
    (fun j hj hp=>by cases hp) ⟨h1,by simp⟩ (fN p N 0) 0 100000 (by omega) (by omega)
   exact eL (fun id' h=>by cases h) key
noncomputable def uN (a:Nat→Int) (m j:Nat):Nat:=(iq a (j+1) (m-(j+1)-1)).2
noncomputable def Gv (a:Nat→Int) (m j:Nat):Nat→Int:=ff (iq a (j+1) (m-(j+1)-1)).1 (uN a m j) (fun x=>Int.ofNat 0) (m-uN a m j)
def Dm (a:Nat→Int) (j:Nat):Bool:=decide (a (j+1)=a j)
theorem TQ (hm:2≤m) (h2:m≤1000):exec (bu n 97 61) (.block 0 (.loop (part Tryz.f97 [1,1,0,1,0,0]))) (oc v m (Int.ofNat 1)) (an::⟨false,[(v,.row (.M [.arr .i64 a m]))]⟩::H) =
 some (cond (gB (Dm a) (m-1)) (.ret,[(2,.slc 1 0 v 0 1 (uN a m (fN (Dm a) (m-1) 0)) none)],an::⟨false,[(v,.row (.M [.arr .i64 (Gv a m (fN (Dm a) (m-1) 0)) m]))]⟩::H) (.normal,oc v m (Int.ofNat m)++[(13,.bool false)],an::⟨false,[(v,.row (.M [.arr .i64 a m]))]⟩::H)):=by
 have key:∀ j,j<m-1→(∀ i,i<j→Dm a i=false)→∃ x,exec (bu n 97 61) (part Tryz.f97 [1,1,0,1,0,0]) (oc v m ((j+1:Nat):Int)) (an::⟨false,[(v,.row (.M [.arr .i64 a m]))]⟩::H)=some x∧if Dm a j=true then x=(.ret,[(2,.slc 1 0 v 0 1 (uN a m j) none)],an::⟨false,[(v,.row (.M [.arr .i64 (Gv a m j) m]))]⟩::H) else x.1=.normal∧tidy (ar (an::⟨false,[(v,.row (.M [.arr .i64 a m]))]⟩::H)) x.2.1 x.2.2=(oc v m ((j+1+1:Nat):Int),an::⟨false,[(v,.row (.M [.arr .i64 a m]))]⟩::H):=by
  intro j hj hno
  have e2:bQ .i64 ((j+1:Nat):Int) (Int.ofNat 1)=(j:Int):=by rw[cG,show Int.ofNat 1=1 from rfl,cq (by omega) (by omega)];omega
  have e3:aw 0 ((j+1:Nat):Int) 1=j+1:=DG (j+1)
  have e4:aw 0 (j:Int) 1=j:=DG j
  have e5:aS .i64 ((j+1:Nat):Int) (Int.ofNat 1)=((j+1+1:Nat):Int):=iu (by omega)
  have e7:ak 0 (fc ((j+1:Nat):Int))=j+1:=by rw[a7,iA];omega
  have e8:eD m (fc ((j+1:Nat):Int))=m-(j+1):=by rw[jO,iA];omega
  cases hp:Dm a j with
  | true =>
    have hd:a (j+1)=a j:=of_decide_eq_true hp
    have hn:∀ i,i+1<j+1→a (i+1)≠a i:=fun i hi=>of_decide_eq_false (hno i (by omega))
    have hx:=PN n v m a H (j+1) (by omega) (by omega) h2 hd hn
    obtain ⟨_,_,_,i4⟩:=mZ (a:=a) (k0:=j+1) (by omega) hd hn (m-(j+1)-1)
    have hK:uN a m j<m:=by unfold uN;omega
    have eK:(iq a (j+1) (m-(j+1)-1)).2=uN a m j:=rfl
    have e9:ak 0 (fc ((uN a m j:Nat):Int))=uN a m j:=by rw[a7,iA];omega
    have e10:eD m (fc ((uN a m j:Nat):Int))=m-uN a m j:=by rw[jO,iA];omega
    have e11:fc ((uN a m j:Nat):Int)=uN a m j:=by rw[iA];omega
    obtain ⟨y,y1,y2⟩:=aE (Q:=fun x=>x=(.ret,[(2,.slc 1 0 v 0 1 (uN a m j) none)],an::⟨false,[(v,.row (.M [.arr .i64 (Gv a m j) m]))]⟩::H)) (QC n v m (j+1) (m-(j+1)) a (iq a (j+1) (m-(j+1)-1)).1 H ((j+1:Nat):Int) ((uN a m j:Nat):Int)) (aC n) (bg (af _ _) N3 (fun x hx2=>by rw[← Tr.ab hx2];simp only[dG.st,aF];exact hx)) (ag _ _) (by
     rw[e2,e3,e4,e5,e7,e8,e9,e10,e11,b8,show (a (j+1) == a j)=true from beq_iff_eq.2 hd]
     have eG:ff (iq a (j+1) (m-(j+1)-1)).1 (uN a m j) (fun x=>Int.ofNat 0) (m-uN a m j)=Gv a m j:=rfl
     rw[eG]
     generalize Gv a m j=G at *
     generalize uN a m j=K at *
     exact wF)
    exact ⟨y,y1,by rw[if_pos rfl];exact y2⟩
  | false =>
    have hd:a (j+1)≠a j:=of_decide_eq_false hp
    obtain ⟨y,y1,y2⟩:=aE (Q:=fun x=>x.1=.normal∧tidy (ar (an::⟨false,[(v,.row (.M [.arr .i64 a m]))]⟩::H)) x.2.1 x.2.2=(oc v m ((j+1+1:Nat):Int),an::⟨false,[(v,.row (.M [.arr .i64 a m]))]⟩::H)) (Ja n v m a H ((j+1:Nat):Int)) (aC n) (eC (af _ _) 2) (ag _ _) (by
     rw[e2,e3,e4,e5,b8,show (a (j+1) == a j)=false from beq_eq_false_iff_ne.2 hd]
     exact wF)
    exact ⟨y,y1,by rw[if_neg (by decide)];exact y2⟩
 have he:exec (bu n 97 61) (part Tryz.f97 [1,1,0,1,0,0]) (oc v m ((m-1+1:Nat):Int)) (an::⟨false,[(v,.row (.M [.arr .i64 a m]))]⟩::H)=some (.exit 0,oc v m (Int.ofNat m)++[(13,.bool false)],an::⟨false,[(v,.row (.M [.arr .i64 a m]))]⟩::H):=by
  rw[show m-1+1=m by omega]
  obtain ⟨x,h1,rfl⟩:=aE (Q:=fun x=>x=(.exit 0,oc v m (Int.ofNat m)++[(13,.bool false)],an::⟨false,[(v,.row (.M [.arr .i64 a m]))]⟩::H)) (Ja n v m a H (Int.ofNat m)) (aC n) (eC (af _ _) 2) (ag _ _) (by
   exact wF)
  exact h1
 exact EU 0 (fun j=>oc v m ((j+1:Nat):Int)) (fun _=>an::⟨false,[(v,.row (.M [.arr .i64 a m]))]⟩::H) (m-1) (Dm a) (fun j=>([(2,.slc 1 0 v 0 1 (uN a m j) none)],an::⟨false,[(v,.row (.M [.arr .i64 (Gv a m j) m]))]⟩::H)) (oc v m (Int.ofNat m)++[(13,.bool false)],an::⟨false,[(v,.row (.M [.arr .i64 a m]))]⟩::H) (by omega) key he
end
theorem Oo (m:Nat) (a:Nat→Int) (hm:1≤m) (h2:m≤1000):∃ g,(∀ i,i<(oQ a m).length→g i=(oQ a m).getD i 0)∧∀ n v H,cd (n+1) (.fn 97) [.slc 0 0 v 0 1 m none] (⟨false,[(v,.row (.M [.arr .i64 a m]))]⟩::H)=some (.slc 0 0 v 0 1 (oQ a m).length none,⟨false,[(v,.row (.M [.arr .i64 g m]))]⟩::H):=by
 by_cases h1:m<2
 · obtain rfl:m=1:=by omega
   have e:oQ a 1=[a 0]:=rfl
   refine ⟨a,fun i hi=>?_,fun n v H=>?_⟩
   · rw[e] at hi ⊢
     simp at hi
     subst hi;rfl
   · rw[e]
     refine aX (n:=n) Tryz.func97 rfl rfl rfl (Q4 n v 1 a H) (aC n) (eC (af _ _) 0) (ag _ _) ?_
     exact wF
 have hx:=fun n v H=>TQ n v m a H (by omega) h2
 cases hc:gB (Dm a) (m-1) with
 | false =>
   have hno:∀ j,j+1<m→a (j+1)≠a j:=fun j hj=>by
    have:=G6 (by rw[hc];decide) j (show j<m-1 by omega)
    exact of_decide_eq_false this
   have e:=wY a m hno
   have el:(oQ a m).length=m:=by rw[e];simp
   rw[hc] at hx
   simp only[cond_false] at hx
   refine ⟨a,fun i hi=>?_,fun n v H=>?_⟩
   · rw[el] at hi
     rw[e,List.getD_eq_getElem?_getD,List.getElem?_map,List.getElem?_range hi];rfl
   · rw[el]
     refine aX (n:=n) Tryz.func97 rfl rfl rfl (Q3 n v m a H) (aC n) (bg (af _ _) Ri (fun x h=>by rw[← Tr.ab h];simp only[dG.st,aF];exact hx n v H)) (ag _ _) ?_
     exact wF
 | true =>
   have hJ:=ky hc
   obtain ⟨_,_,k3,k4⟩:=m9 (Dm a) (m-1) 0
   have k4:=k4 (by omega)
   have hd:a (fN (Dm a) (m-1) 0+1)=a (fN (Dm a) (m-1) 0):=of_decide_eq_true k4
   have hn:∀ i,i+1<fN (Dm a) (m-1) 0+1→a (i+1)≠a i:=fun i hi=>of_decide_eq_false (k3 i (Nat.zero_le _) (by omega))
   rw[hc] at hx
   simp only[cond_true] at hx
   generalize fN (Dm a) (m-1) 0=J at *
   obtain ⟨i1,i2,_,i4⟩:=mZ (a:=a) (k0:=J+1) (by omega) hd hn (m-(J+1)-1)
   have eK:(iq a (J+1) (m-(J+1)-1)).2=uN a m J:=rfl
   rw[show J+1+(m-(J+1)-1)+1=m by omega] at i1 i2
   rw[eK] at i1 i2
   refine ⟨Gv a m J,fun i hi=>?_,fun n v H=>?_⟩
   · rw[← i1] at hi
     unfold Gv
     rw[pd]
     unfold uU
     rw[if_neg (by omega)]
     exact i2 i hi
   · rw[← i1]
     refine aX (n:=n) Tryz.func97 rfl rfl rfl (Q2 n v m a (Gv a m J) H (uN a m J)) (aC n) (bg (af _ _) Ri (fun x h=>by rw[← Tr.ab h];simp only[dG.st,aF];exact hx n v H)) (ag _ _) ?_
     generalize Gv a m J=G at *
     generalize uN a m J=K at *
     exact wF
end Go.Eng
end
section
namespace Go.Eng
open Go.Proofs
noncomputable def tp (s l m:Nat) (y g:Nat→Int) (L:AV) (j:Int):av:=[(0,fT (s+1) l y),(3,L),(7,bc m g false),(8,.int .i64 (Int.ofNat m)),(9,.int .i64 j)]
noncomputable def OF (v k:Nat) (a b:Nat→Int) (args:List AV) (H:aa):Tr (AV×aa) :=
 match args with
 | [.slc 0 0 v' 0 1 k' none]=>match H with
   | ⟨lk,[(v2,.row (.M [.arr .i64 a' k2]))]⟩::r=>.reqP (lk=false∧v'=v∧k'=k∧v2=v∧k2=k∧a'=a) (.ok (.tup [],⟨false,[(v,.row (.M [.arr .i64 b k]))]⟩::r))
   | _=>.bad
 | _=>.bad
noncomputable def OG (v k k3:Nat) (a b:Nat→Int) (args:List AV) (H:aa):Tr (AV×aa) :=
 match args with
 | [.slc 0 0 v' 0 1 k' none]=>match H with
   | ⟨lk,[(v2,.row (.M [.arr .i64 a' k2]))]⟩::r=>.reqP (lk=false∧v'=v∧k'=k∧v2=v∧k2=k∧a'=a) (.ok (.slc 0 0 v 0 1 k3 none,⟨false,[(v,.row (.M [.arr .i64 b k]))]⟩::r))
   | _=>.bad
 | _=>.bad
theorem Na (n s l m:Nat) (y g:Nat→Int) (H:aa) (j:Int):aK (bu n 81 32) (il aI n 0) aP aQ (part Tryz.f81 [1,1,0,1,0,0]) (hints (tp s l m y g .nils j)) (an::H) =
 Tr.ite (cn j (Int.ofNat m)) (Tr.req (cU j m) (Tr.req (bB (aw 0 j 1) m) (Tr.req (cU (g (aw 0 j 1)) l) (Tr.req (bB (ak (aw 0 (g (aw 0 j 1)) 7) 5) (aH l 7)) (Tr.req (jk 0 1 8) (Tr.req (dS 0 0) (Tr.req (ju 1 1) (Tr.ok (Ex.normal,[(0,AV.ptrT (some (Nat.succ s)) (Row.G [ay 7 l y]) 0,none),(3,AV.slc 0 1 0 0 1 1 none,none),(7,AV.slcT none (Row.M [aM.arr .i64 g m]) 1 m false,none),(8,AV.int .i64 (Int.ofNat m),none),(9,AV.int .i64 (aS .i64 j (Int.ofNat 1)),none)],{ lock:=false,bs:=[(0,aj.row (Row.I .i64 [y (ak (aw 0 (g (aw 0 j 1)) 7) 5)])),(0,aj.row (Row.M [aM.arr .i64 (bn [y (ak (aw 0 (g (aw 0 j 1)) 7) 5)]) 1]))] } :: H))))))))) (Tr.ok (Ex.exit 0,[(0,AV.ptrT (some (Nat.succ s)) (Row.G [ay 7 l y]) 0,none),(3,AV.nils,none),(7,AV.slcT none (Row.M [aM.arr .i64 g m]) 1 m false,none),(8,AV.int .i64 (Int.ofNat m),none),(9,AV.int .i64 j,none),(10,AV.bool false,some 1)],an::H)):=by kernel_rfl
theorem Nb (n s l m v k:Nat) (y g b:Nat→Int) (H:aa) (j:Int):aK (bu n 81 32) (il aI n 0) aP aQ (part Tryz.f81 [1,1,0,1,0,0]) (hints (tp s l m y g (.slc 0 0 v 0 1 k none) j)) (⟨false,[(v,.row (.M [.arr .i64 b k]))]⟩::H) =
 Tr.ite (cn j (Int.ofNat m)) (Tr.req (cU j m) (Tr.req (bB (aw 0 j 1) m) (Tr.req (cU (g (aw 0 j 1)) l) (Tr.req (bB (ak (aw 0 (g (aw 0 j 1)) 7) 5) (aH l 7)) (Tr.req (jk k 1 8) (Tr.req (dS 0 0) (Tr.req (ju 1 1) (Tr.req (dS v v) (Tr.req (dS (ak 0 k) k) (Tr.ok (Ex.normal,[(0,AV.ptrT (some (Nat.succ s)) (Row.G [ay 7 l y]) 0,none),(3,AV.slc 0 0 (Nat.succ v) 0 1 (ak k 1) none,none),(7,AV.slcT none (Row.M [aM.arr .i64 g m]) 1 m false,none),(8,AV.int .i64 (Int.ofNat m),none),(9,AV.int .i64 (aS .i64 j (Int.ofNat 1)),none)],{ lock:=false,bs:=[(Nat.succ v,aj.row (Row.M [aM.arr .i64 (uR (nQ b 0) k (bn [y (ak (aw 0 (g (aw 0 j 1)) 7) 5)])) (ak k 1)])),(0,aj.row (Row.I .i64 [y (ak (aw 0 (g (aw 0 j 1)) 7) 5)]))] } :: H))))))))))) (Tr.ok (Ex.exit 0,[(0,AV.ptrT (some (Nat.succ s)) (Row.G [ay 7 l y]) 0,none),(3,AV.slc 0 0 v 0 1 k none,none),(7,AV.slcT none (Row.M [aM.arr .i64 g m]) 1 m false,none),(8,AV.int .i64 (Int.ofNat m),none),(9,AV.int .i64 j,none),(10,AV.bool false,some 1)],{ lock:=false,bs:=[(v,aj.row (Row.M [aM.arr .i64 b k]))] } :: H)):=by kernel_rfl
theorem QZ (n s l m v k k3:Nat) (y g a b c:Nat→Int) (H:aa):bt Tryz.prog (cd (n+1)) 100000 81 Tryz.f81 (KtB.kt 81) (il (dI (dI (iS aI 64 (gO (fT (s+1) l y) (bc m g false))) 96 (OF v k a b)) 97 (OG v k k3 b c)) n 1) (dJ aP 0 (tp s l m y g .nils (Int.ofNat 0)) (an::H) (.ok (.normal,hints (tp s l m y g (.slc 0 0 v 0 1 k none) (Int.ofNat m)++[(10,.bool false)]),⟨false,[(v,.row (.M [.arr .i64 a k]))]⟩::H))) aQ [(fT s l y,none)] H =
 (fun (Z0:av)=>Tr.reqP (AV.ptrT (some (Nat.succ s)) (Row.G [ay 7 l y]) 0=AV.ptrT (some (Nat.succ s)) (Row.G [ay 7 l y]) 0) (Tr.reqP (Z0=Z0∧an::H=an::H) (Tr.reqP (false=false∧v=v∧k=k∧v=v∧k=k∧a=a) (Tr.reqP (false=false∧v=v∧k=k∧v=v∧k=k∧b=b) (Tr.req (dS v v) (Tr.req (rF 0 k3 0 k) (Tr.ok ((AV.fn (Fn.func 112) [] [AV.ptrT (some 0) (Row.G [AV.slcT none (Row.M [aM.arr .i64 (nQ c 0) k3]) 1 k3 false]) 0],none),H)))))))) [(0,AV.ptrT (some (Nat.succ s)) (Row.G [ay 7 l y]) 0),(3,AV.nils),(7,AV.slcT none (Row.M [aM.arr .i64 g m]) 1 m false),(8,AV.int .i64 (Int.ofNat m)),(9,AV.int .i64 (Int.ofNat 0))]:=by kernel_rfl
theorem QY (n s l:Nat) (y:Nat→Int) (H:aa):bt Tryz.prog (cd (n+1)) 100000 81 Tryz.f81 (KtB.kt 81) (il (iS (iS aI 64 (gO (fT (s+1) l y) .nils)) 96 (gO .nils (.tup []))) n 1) aP aQ [(fT s l y,none)] H =
 Tr.reqP (AV.ptrT (some (Nat.succ s)) (Row.G [ay 7 l y]) 0=AV.ptrT (some (Nat.succ s)) (Row.G [ay 7 l y]) 0) (Tr.reqP (AV.nils=AV.nils) (Tr.ok ((AV.fn (Fn.func 112) [] [AV.ptrT (some 0) (Row.G [AV.nils]) 0],none),H))):=by kernel_rfl
theorem RI:∀ b,(0,b) ∈ aV (bM Tryz.f81)→b=.loop (part Tryz.f81 [1,1,0,1,0,0]):=fM (by kernel_rfl)
def zQ (z g:Nat→Int):Nat→List Int
 | 0=>[]
 | j+1=>zQ z g j++[bE z (g j).toNat]
theorem sw (z g:Nat→Int):∀ j,(zQ z g j).length=j
 | 0=>rfl
 | j+1=>by
   show (zQ z g j++[_]).length=j+1
   rw[List.length_append,sw z g j];rfl
theorem On (n:Nat) (H:aa):cd (n+6) (.fn 96) [.nils] H=some (.tup [],H):=by kernel_rfl
theorem R7 (n v k:Nat) (a:Nat→Int) (H:aa) (h1:0<k) (h2:k<4611686018427387904):cd (n+1) (.fn 96) [.slc 0 0 v 0 1 k none] (⟨false,[(v,.row (.M [.arr .i64 a k]))]⟩::H)=some (.tup [],⟨false,[(v,.row (.M [.arr .i64 (Ei jr a 0 k) k]))]⟩::H):=by
 have hr:dp (⟨false,[(v,.row (.M [.arr .i64 a k]))]⟩::H) 0 0 v=some (.M [.arr .i64 a k]):=by
  show (if Nat.beq v v then some (Row.M [.arr .i64 a k]) else none)=_
  rw[if_pos (Nat.beq_refl v)]
 have:nE (cd n) 96 [.slc 0 0 v 0 1 k none] (⟨false,[(v,.row (.M [.arr .i64 a k]))]⟩::H)=some (.tup [],⟨false,[(v,.row (.M [.arr .i64 (Ei jr a 0 k) k]))]⟩::H):=by
  show D2 jr [.slc 0 0 v 0 1 k none] (⟨false,[(v,.row (.M [.arr .i64 a k]))]⟩::H)=_
  simp only[D2,hr]
  rw[if_pos ⟨rfl,h1,h2,by omega⟩]
  rfl
 unfold cd
 rw[show cS Tryz.prog nE KtB.kt 100000 (n+1) (.fn 96) [.slc 0 0 v 0 1 k none] (⟨false,[(v,.row (.M [.arr .i64 a k]))]⟩::H)=(match nE (cd n) 96 [.slc 0 0 v 0 1 k none] (⟨false,[(v,.row (.M [.arr .i64 a k]))]⟩::H) with
  | some r=>some r
  | none=>_) from rfl,this]
theorem J0 {n v k:Nat} {a b:Nat→Int} {t:l9} (ht:t.Ok (cd (n+1))) (h:∀ H,cd (n+1) (.fn 96) [.slc 0 0 v 0 1 k none] (⟨false,[(v,.row (.M [.arr .i64 a k]))]⟩::H)=some (.tup [],⟨false,[(v,.row (.M [.arr .i64 b k]))]⟩::H)):(dI t 96 (OF v k a b)).Ok (cd (n+1)):=by
 refine gh ht (fun args H x hx=>?_)
 unfold OF at hx
 split at hx
 · split at hx
   · obtain ⟨⟨rfl,rfl,rfl,rfl,rfl,rfl⟩,h2⟩:=Tr.cW hx
     rw[← Tr.ab h2]
     exact h _
   · exact (Tr.ae hx).elim
 · exact (Tr.ae hx).elim
theorem J1 {n v k k3:Nat} {a b:Nat→Int} {t:l9} (ht:t.Ok (cd (n+1))) (h:∀ H,cd (n+1) (.fn 97) [.slc 0 0 v 0 1 k none] (⟨false,[(v,.row (.M [.arr .i64 a k]))]⟩::H)=some (.slc 0 0 v 0 1 k3 none,⟨false,[(v,.row (.M [.arr .i64 b k]))]⟩::H)):(dI t 97 (OG v k k3 a b)).Ok (cd (n+1)):=by
 refine gh ht (fun args H x hx=>?_)
 unfold OG at hx
 split at hx
 · split at hx
   · obtain ⟨⟨rfl,rfl,rfl,rfl,rfl,rfl⟩,h2⟩:=Tr.cW hx
     rw[← Tr.ab h2]
     exact h _
   · exact (Tr.ae hx).elim
 · exact (Tr.ae hx).elim
section
variable (n s l m:Nat) (z g:Nat→Int) (H:aa)
theorem TN (hl:l≤14) (hm:m≤14) (hg:∀ j,j<m→0≤g j∧g j<l):exec (bu n 81 32) (.block 0 (.loop (part Tryz.f81 [1,1,0,1,0,0]))) (tp s l m (oY z l) g .nils (Int.ofNat 0)) (an::H)=some (.normal,tp s l m (oY z l) g (dW (zQ z g m)) (Int.ofNat m)++[(10,.bool false)],K7 (zQ z g m)::H):=by
 refine jz 0 (fun j=>tp s l m (oY z l) g (dW (zQ z g j)) (j:Int)) (fun j=>K7 (zQ z g j)::H) m (tp s l m (oY z l) g (dW (zQ z g m)) (Int.ofNat m)++[(10,.bool false)],K7 (zQ z g m)::H) (by omega) (fun j hj=>?_) ?_
 · have ej:aS .i64 (j:Int) (Int.ofNat 1)=((j+1:Nat):Int):=iu (by omega)
   have ei:aw 0 (j:Int) 1=j:=DG j
   have eg:aw 0 (g j) 7=(g j).toNat*7:=by rw[bA];omega
   have hgj:=hg j hj
   have h5:oY z l ((g j).toNat*7+5)=bE z (g j).toNat:=nK z (by omega) (by omega)
   have hd:zQ z g (j+1)=zQ z g j++[bE z (g j).toNat]:=rfl
   have hlen:=sw z g j
   cases e:zQ z g j with
   | nil =>
     rw[e] at hd
     refine aE (Na n s l m (oY z l) g H (j:Int)) (aC n) (af _ _) (ag _ _) ?_
     simp only[ei,eg,a7]
     rw[ej,h5]
     rw[hd]
     clear hd
     generalize bE z (g j).toNat=lo at *
     exact wF
   | cons a r =>
     rw[e] at hd hlen
     have e1:=sn (a::r) (bE z (g j).toNat)
     simp only[List.length_cons] at hlen e1
     have e3:ak (r.length+1) 1=r.length+1+1:=by rw[a7]
     refine aE (Nb n s l m r.length (r.length+1) (oY z l) g (bn (a::r)) H (j:Int)) (aC n) (af _ _) (ag _ _) ?_
     simp only[ei,eg,a7] at e1 e3 ⊢
     rw[ej,h5,e1]
     have e4:(r++[bE z (g j).toNat]).length=r.length+1:=by simp
     rw[hd]
     clear hd
     generalize bE z (g j).toNat=lo at *
     repeat' first | (refine Tr.al (fun hc=>?_) (fun hc=>?_)<;>(try simp (disch:=omega) only[nV,nW] at hc)<;>(try (exfalso;omega))) | (refine Tr.bj ?_ ?_;· ((try simp (disch:=omega) only[nV,nW]);try omega)) | (refine Tr.aB ?_ ?_;· first | exact trivial | rfl | exact ⟨rfl,rfl⟩ | exact ⟨trivial,rfl⟩ | exact ⟨rfl,by assumption⟩ | exact ⟨trivial,by assumption⟩ | exact ⟨rfl,rfl,rfl⟩ | (simp (disch:=omega) only[nV,nW];done) | ((try simp (disch:=omega) only[nV,nW]);omega)) | fail
     all_goals first
      | (refine Tr.ao ⟨rfl,?_⟩
         show _=(tp s l m (oY z l) g (.slc 0 0 (r++[lo]).length 0 1 ((r++[lo]).length+1) none) ((j+1:Nat):Int),(⟨false,[((r++[lo]).length,.row (.M [.arr .i64 (bn (a::r++[lo])) ((r++[lo]).length+1)]))]⟩:bx)::H)
         rw[e4];rfl)
      | fail
 · cases e:zQ z g m with
   | nil =>
     obtain ⟨x,h1,rfl⟩:=aE (Q:=fun x=>x=(.exit 0,tp s l m (oY z l) g .nils (Int.ofNat m)++[(10,.bool false)],an::H)) (Na n s l m (oY z l) g H (Int.ofNat m)) (aC n) (af _ _) (ag _ _) (by
      exact wF)
     exact h1
   | cons a r =>
     obtain ⟨x,h1,rfl⟩:=aE (Q:=fun x=>x=(.exit 0,tp s l m (oY z l) g (.slc 0 0 r.length 0 1 (r.length+1) none) (Int.ofNat m)++[(10,.bool false)],(⟨false,[(r.length,.row (.M [.arr .i64 (bn (a::r)) (r.length+1)]))]⟩:bx)::H)) (Nb n s l m r.length (r.length+1) (oY z l) g (bn (a::r)) H (Int.ofNat m)) (aC n) (af _ _) (ag _ _) (by
      exact wF)
     exact h1
end
noncomputable def A0 (l:Nat) (z:Nat→Int):List Int:=zQ z (bn (dl (fw z) l)) (dl (fw z) l).length
noncomputable def bS (l:Nat) (z:Nat→Int):List Int:=oQ (bn (jr (A0 l z))) (dl (fw z) l).length
noncomputable def Uz (A:AV):AV:=.fn (.func 112) [] [.ptrT (some 0) (.G [A]) 0]
theorem Lk (l:Nat) (z:Nat→Int) (h:bD l z=0):∃ P,(∀ i,i<(bS l z).length→P i=(bS l z).getD i 0)∧∀ n s H,cd (n+8) (.fn 81) [fT s l (oY z l)] H=some (Uz (if (bS l z).length=0 then .nils else bc (bS l z).length P false),H):=by
 obtain ⟨hl,_⟩:=bI h
 have hlen:=w8 (fw z) l
 cases e:dl (fw z) l with
 | nil =>
   have e2:bS l z=[]:=by unfold bS;rw[e];rfl
   rw[e2]
   refine ⟨fun _=>0,fun i hi=>by simp at hi,fun n s H=>?_⟩
   rw[if_pos (show ([]:List Int).length=0 from rfl)]
   refine aX (n:=n+7) Tryz.func81 rfl rfl rfl (QY (n+6) s l (oY z l) H) (eP _ (n+6) 1 (fun q=>Dj (Dj (aO _) (fun H=>by
    have:=JD (n+2+q) (s+1) l z H h
    rw[e] at this
    rw[show n+6+q=n+2+q+4 by omega]
    exact this)) (fun H=>by rw[show n+6+q=n+q+6 by omega];exact On _ H))) (af _ _) (ag _ _) ?_
   exact wF
 | cons a0 r0 =>
   have em:(dl (fw z) l).length=r0.length+1:=by rw[e];rfl
   have hg:∀ j,j<r0.length+1→0≤bn (dl (fw z) l) j∧bn (dl (fw z) l) j<l:=fun j hj=>by
    have:=pO (dl (fw z) l) j (by omega)
    obtain ⟨i,h1,h2,_⟩:=(qt _ _ _).1 this
    omega
   have hx:=fun n s H=>TN (n+7) s l (r0.length+1) z (bn (dl (fw z) l)) H (by omega) (by omega) hg
   have hlw:A0 l z=zQ z (bn (dl (fw z) l)) (r0.length+1):=by unfold A0;rw[em]
   have hA:=sw z (bn (dl (fw z) l)) (r0.length+1)
   have hpt:bS l z=oQ (bn (jr (A0 l z))) (r0.length+1):=by unfold bS;rw[em]
   rw[← hlw] at hx hA
   generalize hAA:A0 l z=A at *
   cases A with
   | nil=>simp at hA
   | cons a r =>
     simp only[List.length_cons,Nat.add_right_cancel_iff] at hA
     obtain ⟨P,hP,hcp⟩:∃ P,(∀ i,i<(bS l z).length→P i=(bS l z).getD i 0)∧∀ q v H,cd (q+1) (.fn 97) [.slc 0 0 v 0 1 (r.length+1) none] (⟨false,[(v,.row (.M [.arr .i64 (bn (jr (a::r))) (r.length+1)]))]⟩::H)=some (.slc 0 0 v 0 1 (bS l z).length none,⟨false,[(v,.row (.M [.arr .i64 P (r.length+1)]))]⟩::H):=by
      rw[hpt,← hA]
      exact Oo _ _ (by omega) (by omega)
     refine ⟨P,hP,fun n s H=>?_⟩
     have hk:1≤(bS l z).length:=by
      rw[hpt]
      have:oQ (bn (jr (a::r))) (r0.length+1)≠[]:=by
       have:∀ j,oQ (bn (jr (a::r))) (j+1)≠[]:=by
        intro j
        induction j with
        | zero=>simp[oQ]
        | succ j ih =>
          show (if _ then _ else _)≠[]
          split
          · simp
          · exact ih
       exact this _
      have:=List.length_pos_iff.2 this
      omega
     have hle:(bS l z).length≤r.length+1:=by rw[hpt,← hA];exact wX _ _
     rw[if_neg (by omega)]
     have hs0:P=nQ P 0:=(ij P).symm
     have hrw:=KF (a::r)
     simp only[List.length_cons] at hrw
     refine aX (n:=n+7) Tryz.func81 rfl rfl rfl (QZ (n+6) s l (r0.length+1) r.length (r.length+1) (bS l z).length (oY z l) (bn (dl (fw z) l)) (bn (a::r)) (bn (jr (a::r))) P H) (eP _ (n+6) 1 (fun q=>by
      rw[show n+6+q=n+5+q+1 by omega]
      refine J1 (J0 (Dj (aO _) (fun H=>?_)) (fun H=>?_)) (fun H=>hcp _ _ H)
      · have:=JD (n+2+q) (s+1) l z H h
        rw[show n+5+q+1=n+2+q+4 by omega]
        rw[this,e]
        show _=some (bc (r0.length+1) (bn (a0::r0)) false,H)
        rfl
      · rw[← hrw]
        exact R7 _ _ _ _ H (by omega) (by omega))) (bg (af _ _) RI (fun x hx2=>by rw[← Tr.ab hx2];simp only[dG.st,aF];exact hx n s H)) (ag _ _) ?_
     rw[ij]
     generalize bS l z=Q at *
     exact wF
end Go.Eng
end
