/- Lay: plan: as many turns as are wanted. -/
import Derived.Test.YtoomemfhcbajoaaV3Lb29x4
set_option linter.unusedVariables false
set_option linter.unusedSimpArgs false
set_option maxRecDepth 100000
section
namespace Go.Eng
theorem Ij {t e:Nat→Int} {i:Nat} {v:Int}:∀ m,v≤C9 t e i m↔v≤e i∧∀ q,q<m→v≤e (bX t q (i:Int)).toNat-(q:Int)
 | 0=>by
   show v≤e i↔_
   exact ⟨fun h=>⟨h,fun q hq=>by omega⟩,fun h=>h.1⟩
 | m + 1=>by
   show v≤min (C9 t e i m) (e (bX t m (i:Int)).toNat-(m:Int))↔_
   have ih:=Ij (t:=t) (e:=e) (i:=i) (v:=v) m
   constructor
   · intro h
     obtain ⟨a,b⟩:=ih.1 (by omega)
     refine ⟨a,fun q hq=>?_⟩
     by_cases c:q=m
     · subst c;omega
     · exact b q (by omega)
   · intro h
     have a:=ih.2 ⟨h.1,fun q hq=>h.2 q (by omega)⟩
     have b:=h.2 m (by omega)
     omega
theorem yv {l:Nat} {t e:Nat→Int} {i:Nat} {v:Int} (h:Fw l t) (hi:i<l):v≤oO l t e i↔∀ q,q<qf l t i→v≤e (bX t q (i:Int)).toNat-(q:Int):=by
 unfold oO
 rw[Ij]
 refine ⟨fun h=>h.2,fun hq=>⟨?_,hq⟩⟩
 have:=hq 0 (by have:=wz h hi;omega)
 have e0:bX t 0 (i:Int)=(i:Int):=rfl
 rw[e0,Int.toNat_natCast] at this
 omega
theorem tx {t:Nat→Int} {y x:Nat} (hy:t y=(x:Int)):∀ q,bX t (q+1) (y:Int)=bX t q (x:Int)
 | 0=>by
   show (if _ then _ else _)=(x:Int)
   have e0:bX t 0 (y:Int)=(y:Int):=rfl
   simp[e0,hy]
 | q+1=>by
   have ih:=tx hy q
   show (if _ then _ else _)=(if _ then _ else _)
   rw[ih]
theorem wy {l:Nat} {t:Nat→Int} {y x:Nat} (h:Fw l t) (hy:y<l) (hx:t y=(x:Int)):qf l t y=qf l t x+1:=by
 obtain ⟨a1,a2,a3⟩:=pM h.cyc y hy
 have hp:=wz h hy
 have e1:bX t 1 (y:Int)=(x:Int):=tx hx 0
 have hne:qf l t y≠1:=fun c=>by
  rw[c,e1] at a3;omega
 have:=(wA h hy 1 (by omega)).2
 rw[e1,Int.toNat_natCast] at this
 omega
theorem GQ {l:Nat} {t e:Nat→Int} {y x:Nat} (h:Fw l t) (hy:y<l) (hx:x<l) (hyx:t y=(x:Int)):oO l t e y≤oO l t e x-1:=by
 have hl:=wy h hy hyx
 have:=(yv (e:=e) (v:=oO l t e y) h hy).1 (Int.le_refl _)
 have h2:oO l t e y+1≤oO l t e x:=(yv h hx).2 (fun q hq=>by
  have:=this (q+1) (by omega)
  rw[tx hyx] at this
  omega)
 omega
theorem Lg {l:Nat} {t e:Nat→Int} {i:Nat} (h:Fw l t) (hi:i<l):oO l t e i≤e i:=by
 have:=(yv (e:=e) (v:=oO l t e i) h hi).1 (Int.le_refl _) 0 (by have:=wz h hi;omega)
 have e0:bX t 0 (i:Int)=(i:Int):=rfl
 rw[e0,Int.toNat_natCast] at this
 omega
theorem Ju {l:Nat} {t e:Nat→Int} {i:Nat} (h:Fw l t) (hi:i<l):∃ q,q<qf l t i∧oO l t e i=e (bX t q (i:Int)).toNat-(q:Int):=by
 apply Classical.byContradiction
 intro hno
 have h1:=(yv (e:=e) (v:=oO l t e i) h hi).1 (Int.le_refl _)
 have:oO l t e i+1≤oO l t e i:=(yv h hi).2 (fun q hq=>by
  have a:=h1 q hq
  have b:oO l t e i≠e (bX t q (i:Int)).toNat-(q:Int):=fun c=>hno ⟨q,hq,c⟩
  omega)
 omega
section
variable {l H:Nat} {t z f0:Nat→Int}
theorem PY (hl:l≤30) (ht:∀ i,i<l→t i<l) (h0:∀ i,i<l→f0 i=(cn (fun x=>decide (t x=(i:Int))) l:Nat)) {y x:Nat} (hy:y<l) (hx:x<l) (hyx:t y=(x:Int)):∀ m,dS l t z H f0 m x=true→0<m∧dS l t z H f0 (m-1) y=true
 | 0,h=>by cases h
 | m + 1,h=>by
   refine ⟨by omega,?_⟩
   show dS l t z H f0 m y=true
   have h:(dS l t z H f0 m x || decide (x ∈ rJ l t z H f0 m))=true:=h
   cases hd:dS l t z H f0 m x with
   | true =>
     obtain ⟨a,b⟩:=PY hl ht h0 hy hx hyx m hd
     exact jk (by omega) b
   | false =>
     rw[hd,Bool.false_or,decide_eq_true_eq] at h
     have hq:=DD (z:=z) (H:=H) hl ht h0 m
     have hf:=((hq.q2 x hx).1 (o9 H x h)).2
     rw[hq.q1 x hx] at hf
     have:=kE (p:=fun a=>decide (t a=(x:Int)) && !dS l t z H f0 m a) (n:=l) (by omega) y hy
     rw[decide_eq_true hyx,Bool.true_and,Bool.not_eq_false'] at this
     exact this
theorem BG (hl:l≤30) (h:Fw l t) (h0:∀ i,i<l→f0 i=(cn (fun x=>decide (t x=(i:Int))) l:Nat)) {i:Nat} (hi:i<l):∀ q m,q<qf l t i→dS l t z H f0 m (bX t q (i:Int)).toNat=true→q<m∧dS l t z H f0 (m-q) i=true
 | 0,m,_,hd=>by
   have e0:bX t 0 (i:Int)=(i:Int):=rfl
   rw[e0,Int.toNat_natCast] at hd
   refine ⟨?_,hd⟩
   cases m with
   | zero=>cases hd
   | succ m=>omega
 | q + 1,m,hq,hd=>by
   obtain ⟨a1,_⟩:=wA h hi (q+1) hq
   obtain ⟨b1,_⟩:=wA h hi q (by omega)
   have hb:(bX t q (i:Int)).toNat<l:=by
    have:=jL h.tl (show (i:Int)<l by omega) q
    omega
   have ha:(bX t (q+1) (i:Int)).toNat<l:=by
    have:=jL h.tl (show (i:Int)<l by omega) (q+1)
    omega
   have hs:t (bX t q (i:Int)).toNat=((bX t (q+1) (i:Int)).toNat:Int):=by
    have:bX t (q+1) (i:Int)=t (bX t q (i:Int)).toNat:=by
     show (if _ then _ else _)=_
     simp;omega
    rw[← this];omega
   obtain ⟨c1,c2⟩:=PY hl h.tl h0 hb ha hs m hd
   obtain ⟨d1,d2⟩:=BG hl h h0 hi q (m-1) (by omega) c2
   refine ⟨by omega,?_⟩
   rw[show m-(q+1)=m-1-q by omega];exact d2
theorem JR {w:Nat→Bool}:(bu l z w H).1.length≤H:=by
 obtain ⟨r,h1,h2,h3,h4⟩:=nM (l:=l) (z:=z) (w:=w) H
 have:=s3 r h2
 unfold eY at this
 rw[List.length_map] at this
 rw[h3];omega
theorem H5 (hl:l≤30) (ht:∀ i,i<l→t i<l) (h0:∀ i,i<l→f0 i=(cn (fun x=>decide (t x=(i:Int))) l:Nat)):∀ m,cn (dS l t z H f0 m) l≤H*m
 | 0=>by
   have:cn (dS l t z H f0 0) l=0:=mB (fun j _=>rfl)
   rw[this];exact Nat.zero_le _
 | m + 1=>by
   have ih:=H5 hl ht h0 m
   obtain ⟨r,h1,h2,h3,h4⟩:=nM (l:=l) (z:=z) (w:=(eO l t z H f0 m).2) H
   obtain ⟨_,a2,a3⟩:=B6 (DD (z:=z) (H:=H) hl ht h0 m) r h2
   rw[← h3] at a2 a3
   have hc:=Ad a2 (fun i hi=>(a3 i hi).1)
   have hm:=JR (l:=l) (H:=H) (z:=z) (w:=(eO l t z H f0 m).2)
   have key:∀ n,cn (dS l t z H f0 (m+1)) n≤cn (dS l t z H f0 m) n+cn (fun i=>decide (i ∈ (bu l z (eO l t z H f0 m).2 H).1)) n:=by
    intro n
    induction n with
    | zero=>exact Nat.le_refl _
    | succ n ihn =>
      show cn _ n+(dS l t z H f0 m n || decide (n ∈ (bu l z (eO l t z H f0 m).2 H).1)).toNat≤(cn _ n+(dS l t z H f0 m n).toNat)+(cn _ n+(decide (n ∈ (bu l z (eO l t z H f0 m).2 H).1)).toNat)
      have:(dS l t z H f0 m n || decide (n ∈ (bu l z (eO l t z H f0 m).2 H).1)).toNat≤(dS l t z H f0 m n).toNat+(decide (n ∈ (bu l z (eO l t z H f0 m).2 H).1)).toNat:=by
       cases dS l t z H f0 m n<;>cases decide (n ∈ (bu l z (eO l t z H f0 m).2 H).1)<;>decide
      omega
   have:=key l
   rw[Nat.mul_succ]
   omega
theorem DW (hl:l≤30) (h:Fw l t) (h0:∀ i,i<l→f0 i=(cn (fun x=>decide (t x=(i:Int))) l:Nat)) {m:Nat} (hw:cn (eO l t z H f0 m).2 l=0):∀ k i,i<l→l-qf l t i≤k→dS l t z H f0 m i=true:=by
 have hq:=DD (z:=z) (H:=H) hl h.tl h0 m
 intro k
 induction k with
 | zero =>
   intro i hi hk
   cases hd:dS l t z H f0 m i with
   | true=>rfl
   | false =>
     have hw1:=kE hw i hi
     have hf:(eO l t z H f0 m).1 i≠0:=fun c=>by rw[(hq.q2 i hi).2 ⟨hd,c⟩] at hw1;cases hw1
     rw[hq.q1 i hi] at hf
     obtain ⟨y,y1,y2⟩:=pK (p:=fun x=>decide (t x=(i:Int)) && !dS l t z H f0 m x) (n:=l) (by omega)
     simp only[Bool.and_eq_true,decide_eq_true_eq] at y2
     have:=wy h y1 y2.1
     have:=wz h y1
     omega
 | succ k ih =>
   intro i hi hk
   cases hd:dS l t z H f0 m i with
   | true=>rfl
   | false =>
     have hw1:=kE hw i hi
     have hf:(eO l t z H f0 m).1 i≠0:=fun c=>by rw[(hq.q2 i hi).2 ⟨hd,c⟩] at hw1;cases hw1
     rw[hq.q1 i hi] at hf
     obtain ⟨y,y1,y2⟩:=pK (p:=fun x=>decide (t x=(i:Int)) && !dS l t z H f0 m x) (n:=l) (by omega)
     simp only[Bool.and_eq_true,decide_eq_true_eq,Bool.not_eq_true'] at y2
     have:=wy h y1 y2.1
     rw[ih y y1 (by omega)] at y2
     exact absurd y2.2 (by decide)
end
end Go.Eng
end
section
namespace Go.Eng
open Go.Proofs
theorem OW (n s l k:Nat) (t d g z f:Nat→Int) (hs:List Int→Bool) (gs:List Int→Int) (c:Nat) (h T:Int) (G:aa):aQ (bt n 85 118) (il aH n 0) (bZ aN 4 [] [] .bad) aO (part Try.f85 [1,1,1,1,1,1,1,0,0]) (hints (fJ 2 s l t k d g h++[(117,.bool false)])) (bS (s+1) l t k d g T z f hs gs c::G) =
 (fun (Z0:Row)=>((fun (Z1:aW)=>Tr.ite (bV (Int.ofNat 0) (Int.ofNat c)) (Tr.reqP ([(0,AV.yld 1 2),(1,AV.ptrT (some 1) (Row.G [AV.ptrT (some s) Z0 0]) 0),(2,AV.ptrT none (Row.I .i64 [h]) 0),(6,AV.ptr 0 2 0 0),(7,AV.ptr 0 3 0 0),(8,AV.map 0 4),(10,AV.fn (Fn.func 89) [] []),(11,AV.nils)]=[]∧Z1::G=[]) Tr.bad) (Tr.ok (Ex.exit 2,[(0,AV.yld 1 2,none),(1,AV.ptrT (some 1) (Row.G [AV.ptrT (some s) Z0 0]) 0,none),(2,AV.ptrT none (Row.I .i64 [h]) 0,none),(6,AV.ptr 0 2 0 0,none),(7,AV.ptr 0 3 0 0,none),(8,AV.map 0 4,none),(10,AV.fn (Fn.func 89) [] [],none),(56,AV.bool false,some 1)],Z1::G))) { lock:=false,bs:=[(0,ak.row (Row.G [AV.fn (Fn.func 74) [AV.ptrT (some (Nat.succ s)) Z0 0] []])),(0,ak.row (Row.I .i64 [T])),(0,ak.row (Row.M [ah.arr .i64 z 30])),(0,ak.row (Row.M [ah.arr .i64 f 30])),(0,ak.fmap (KK.str 2) hs gs c)] })) (Row.M [ah.one (AV.slcT none (Row.M [ah.arr .i64 t l]) 1 l false),ah.one (AV.slcT none (Row.M [ah.arr .i64 d k]) 1 k false),ah.arr .i64 g 30]):=by kernel_rfl
theorem Pr (n s l k:Nat) (t d g y z f2:Nat→Int) (hs hs2:List Int→Bool) (gs gs2:List Int→Int) (c c2:Nat) (h T:Int) (G G2:aa):aZ Try.prog (cd n) 100000 85 Try.f85 (KtL.kt 85) (il (tX (jf (Ag aH 72 [dv (s+1) l t k d g,.int .i64 h,.fn (.func 86) [] [.ptr 0 0 0 0]] (ug (s+1) l t k d g::G) (.ok (.int .i64 T,ug (s+1) l t k d g::G))) 74 (Nj (dv (s+1) l t k d g) k T y)) 53 [dv (s+1) l t k d g,bP k y false] (.agg (.M [.arr .i64 z 30]))) n 0) (bZ (bZ aN 2 (fJ 2 s l t k d g h) (bS (s+1) l t k d g T (br z) (br g) hs gs c::G) (.ok (.normal,hints (fJ 2 s l t k d g h++[(56,.bool false)]),bS (s+1) l t k d g T (br z) f2 hs2 gs2 c2::G2))) 0 (oF 2 s l t k d g h 0) (bS (s+1) l t k d g T (br z) (br g) (fun _=>false) (fun _=>0) 0::G) (.ok (.normal,hints (oF 2 s l t k d g h (Int.ofNat l)++[(41,.bool false)]),bS (s+1) l t k d g T (br z) (br g) hs gs c::G))) aO [(.yld 0 2,none),(.ptrT (some 0) (.G [dv s l t k d g]) 0,none),(.ptrT none (.I .i64 [h]) 0,none)] G =
 (fun (Z0:Row)=>((fun (Z1:Nat×ak)=>((fun (Z2:aW)=>((fun (Z3:aW)=>((fun (Z4:ao)=>((fun (Z5:ao)=>((fun (Z6:List AV)=>Tr.reqP (Z6=Z6∧{ lock:=false,bs:=[Z1] } :: G={ lock:=false,bs:=[Z1] } :: G) (Tr.reqP (AV.ptrT (some (Nat.succ s)) Z0 0=AV.ptrT (some (Nat.succ s)) Z0 0∧T=T) (Tr.reqP ([AV.ptrT (some (Nat.succ s)) Z0 0,AV.slcT none (Row.M [ah.arr .i64 y k]) 1 k false]=[AV.ptrT (some (Nat.succ s)) Z0 0,AV.slcT none (Row.M [ah.arr .i64 y k]) 1 k false]) (Tr.req (fW 0 30 0 30) (Tr.req (jP (ik 0 0) (ik 0 1)) (Tr.req (fW 0 30 0 30) (Tr.reqP (Z4=Z4∧Z2::G=Z2::G) (Tr.reqP (Z5=Z5∧Z3::G=Z3::G) (Tr.ok ((AV.tup [],none),G2)))))))))) [AV.ptrT (some (Nat.succ s)) Z0 0,AV.int .i64 h,AV.fn (Fn.func 86) [] [AV.ptr 0 0 0 0]])) [(0,AV.yld 1 2),(1,AV.ptrT (some 1) (Row.G [AV.ptrT (some s) Z0 0]) 0),(2,AV.ptrT none (Row.I .i64 [h]) 0),(6,AV.ptr 0 2 0 0),(7,AV.ptr 0 3 0 0),(8,AV.map 0 4),(10,AV.fn (Fn.func 89) [] [])])) [(0,AV.yld 1 2),(1,AV.ptrT (some 1) (Row.G [AV.ptrT (some s) Z0 0]) 0),(2,AV.ptrT none (Row.I .i64 [h]) 0),(6,AV.ptr 0 2 0 0),(7,AV.ptr 0 3 0 0),(8,AV.map 0 4),(39,AV.int .i64 (Int.ofNat l)),(40,AV.int .i64 (Int.ofNat 0))])) { lock:=false,bs:=[Z1,(0,ak.row (Row.I .i64 [T])),(0,ak.row (Row.M [ah.arr .i64 (dR (fun x=>Int.ofNat 0) 0 z 30) 30])),(0,ak.row (Row.M [ah.arr .i64 (dR (fun x=>Int.ofNat 0) 0 g 30) 30])),(0,ak.fmap (KK.str 2) hs gs c)] })) { lock:=false,bs:=[Z1,(0,ak.row (Row.I .i64 [T])),(0,ak.row (Row.M [ah.arr .i64 (dR (fun x=>Int.ofNat 0) 0 z 30) 30])),(0,ak.row (Row.M [ah.arr .i64 (dR (fun x=>Int.ofNat 0) 0 g 30) 30])),(0,ak.fmap (KK.str 2) (fun x=>false) (fun x=>Int.ofNat 0) 0)] })) (0,ak.row (Row.G [AV.fn (Fn.func 74) [AV.ptrT (some (Nat.succ s)) Z0 0] []])))) (Row.M [ah.one (AV.slcT none (Row.M [ah.arr .i64 t l]) 1 l false),ah.one (AV.slcT none (Row.M [ah.arr .i64 d k]) 1 k false),ah.arr .i64 g 30]):=by kernel_rfl
noncomputable def H7 (s l:Nat) (t:Nat→Int) (k:Nat) (d g:Nat→Int) (h:Int):Nat→ao
 | 0=>fJ 2 s l t k d g h
 | m+1=>fJ 2 s l t k d g h++[(117,.bool false)]
noncomputable def BL (s l:Nat) (t:Nat→Int) (k:Nat) (d g:Nat→Int) (T:Int) (z:Nat→Int) (st:(Nat→Int)×(Nat→Bool)):aW:=bS s l t k d g T z st.1 (hW l z st.2) (gW l z st.2) (cn st.2 l)
section
variable (n s l k:Nat) (t d g z f0:Nat→Int) (h T:Int) (Gs:Nat→aa)
theorem N9 (H:Nat) (hh:h=(H:Nat)) (hH:0<H∧H≤1000) (hl:l≤30) (ht:∀ i,i<l→t i<l) (hz:∀ i,i<l→1≤z i) (M:Nat) (hM:M≤l) (h1:∀ m,m<M→0<cn (eO l t z H f0 m).2 l) (h2:cn (eO l t z H f0 M).2 l=0) (h3:∀ m,m≤M→∃ P,P+m≤l∧xw l P ((P:Int)-l) (eO l t z H f0 m)) (hy:∀ m,m<M→∀ L:aW,L.lock=false→cd (n+2) (.round 1 2) [bP (JU l t z H f0 m).length (aA (JU l t z H f0 m)) false] (L::Gs m)=some (.bool true,L::Gs (m+1))) :
 exec (bt (n+2) 85 118) (.block 2 (.loop (part Try.f85 [1,1,1,1,1,1,1,0,0]))) (fJ 2 s l t k d g h) (BL (s+1) l t k d g T z (eO l t z H f0 0)::Gs 0)=some (.normal,fJ 2 s l t k d g h++[(56,.bool false)],BL (s+1) l t k d g T z (eO l t z H f0 M)::Gs M):=by
 refine jD (n:=n+2) (f:=85) (nt:=118) (c:=part Try.f85 [1,1,1,1,1,1,1,0,0]) 2 (fun m=>H7 s l t k d g h m) (fun m=>BL (s+1) l t k d g T z (eO l t z H f0 m)::Gs m) M _ (by omega) (fun m hm=>?_) ?_
 · obtain ⟨P,p1,p2⟩:=h3 m (by omega)
   obtain ⟨q,a1,a2,a3,a4,a5,a6,a7,a8,a9,_⟩:=FY (z:=z) hl ht hH.1 (h1 m hm) p2
   have hy:=hy m hm
   unfold JU at hy
   rw[a5,a6] at hy
   have hf:∀ j,j<q+1→∀ i,i<l→-900≤(cP t (aA (eY l z (eO l t z H f0 m).2 (q+1))) ((eO l t z H f0 m).1,(bu l z (eO l t z H f0 m).2 (q+1)).2) j).1 i∧(cP t (aA (eY l z (eO l t z H f0 m).2 (q+1))) ((eO l t z H f0 m).1,(bu l z (eO l t z H f0 m).2 (q+1)).2) j).1 i≤900:=fun j hj i hi=>by
    have:=(a9 j (by omega)).bd i hi
    omega
   have hv:∀ j,j<q+1→∀ i,i<l→(cP t (aA (eY l z (eO l t z H f0 m).2 (q+1))) ((eO l t z H f0 m).1,(bu l z (eO l t z H f0 m).2 (q+1)).2) j).2 i=true→(cP t (aA (eY l z (eO l t z H f0 m).2 (q+1))) ((eO l t z H f0 m).1,(bu l z (eO l t z H f0 m).2 (q+1)).2) j).1 i≤0:=fun j hj=>(a9 j (by omega)).off
   have hc:=h1 m hm
   show ∃ x,_=some x∧(_∧_=(_,BL (s+1) l t k d g T z (HN l t z H (eO l t z H f0 m))::_))
   rw[a7]
   generalize Gs m=A at *
   generalize Gs (m+1)=B at *
   cases m with
   | zero =>
     rcases a4 with a4 | ⟨a4,a4n⟩
     · exact LG n s l k t d g z _ h T _ A B q _ (c5 _) (by omega) (by omega) hc a3 hl a8 ht hz hf hv hy
     · exact LI n s l k t d g z _ h T _ A B q _ (c5 _) (by omega) (by omega) a4n hc a3 hl a8 ht hz hf hv hy
   | succ m =>
     rcases a4 with a4 | ⟨a4,a4n⟩
     · exact LH n s l k t d g z _ h T _ A B q _ (c5 _) (by omega) (by omega) hc a3 hl a8 ht hz hf hv hy
     · exact LJ n s l k t d g z _ h T _ A B q _ (c5 _) (by omega) (by omega) a4n hc a3 hl a8 ht hz hf hv hy
 · show exec _ _ (H7 s l t k d g h M) (bS (s+1) l t k d g T z _ _ _ (cn (eO l t z H f0 M).2 l)::Gs M)=some (_,_,bS (s+1) l t k d g T z _ _ _ (cn (eO l t z H f0 M).2 l)::Gs M)
   rw[h2]
   cases M with
   | zero=>exact cW (OV (n+2) 2 s l k t d g z _ _ _ 0 h T (Gs 0)) (av _) (aD (af _ _) CD (fun x hx=>(Tr.ae hx).elim)) (ag _ _) (by first | (simp (disch:=omega) only[nV,nW];done) | (simp (disch:=omega) only[nV,nW];omega))
   | succ M=>exact cW (OW (n+2) s l k t d g z _ _ _ 0 h T (Gs (M+1))) (av _) (aD (af _ _) CD (fun x hx=>(Tr.ae hx).elim)) (ag _ _) (by first | (simp (disch:=omega) only[nV,nW];done) | (simp (disch:=omega) only[nV,nW];omega))
end
end Go.Eng
end
section
namespace Go.Eng
open Go.Proofs
theorem MT:∀ b,(0,b) ∈ aJ (bm Try.f85)→b=.loop (part Try.f85 [1,1,1,1,1,0,1,0,0]):=fa (by kernel_rfl)
theorem MU:∀ b,(2,b) ∈ aJ (bm Try.f85)→b=.loop (part Try.f85 [1,1,1,1,1,1,1,0,0]):=fa (by kernel_rfl)
noncomputable def MJ (l:Nat) (t:Nat→Int) (k:Nat) (d:Nat→Int) (T:Int):Nat→Int:=br (lJ l t (aA (kJ (fun i=>min (d i) T) k)) l)
noncomputable def zP (l:Nat) (t:Nat→Int) (k:Nat) (d:Nat→Int) (T:Int):Nat→Int:=br (MJ l t k d T)
theorem zT {l k:Nat} {t d:Nat→Int} (hs:Sh l t k d) (T:Int) {i:Nat} (hi:i<l):zP l t k d T i=oO l t (fun i=>min (d i) T) i:=by
 have:=hs.l30
 unfold zP MJ
 rw[rr (l:=l) (by omega),wq hi]
 exact yu hs.fw (fun j hj=>by rw[hs.kl];exact Al _ hj) hi
section
variable (n s l k:Nat) (t d:Nat→Int) (h:Int) (Gs:Nat→aa)
theorem Qz (hs:Sh l t k d) (H:Nat) (hh:h=(H:Nat)) (hH:0<H∧H≤1000) (hz:∀ i,i<l→1≤zP l t k d (iq l t d h:Nat) i) (M:Nat) (hM:M≤l) (h1:∀ m,m<M→0<cn (eO l t (zP l t k d (iq l t d h:Nat)) H (br (cw t l)) m).2 l) (h2:cn (eO l t (zP l t k d (iq l t d h:Nat)) H (br (cw t l)) M).2 l=0) (h3:∀ m,m≤M→∃ P,P+m≤l∧xw l P ((P:Int)-l) (eO l t (zP l t k d (iq l t d h:Nat)) H (br (cw t l)) m))
 (hy:∀ m,m<M→∀ L:aW,L.lock=false→cd (n+5) (.round 1 2) [bP (JU l t (zP l t k d (iq l t d h:Nat)) H (br (cw t l)) m).length (aA (JU l t (zP l t k d (iq l t d h:Nat)) H (br (cw t l)) m)) false] (L::Gs m)=some (.bool true,L::Gs (m+1))) :
 cd (n+6) (.fn 85) [.yld 0 2,.ptrT (some 0) (.G [dv s l t k d (cw t l)]) 0,.ptrT none (.I .i64 [h]) 0] (Gs 0)=some (.tup [],Gs M):=by
 have hl1:=hs.l1
 have hl2:=hs.l30
 have hkl:=hs.kl
 have h72:cd (n+5) (.fn 72) [dv (s+1) l t k d (cw t l),.int .i64 h,.fn (.func 86) [] [.ptr 0 0 0 0]] (ug (s+1) l t k d (cw t l)::Gs 0)=some (.int .i64 (iq l t d h:Nat),ug (s+1) l t k d (cw t l)::Gs 0):=by
  have:=M8 n (s+1) l k 0 t d (cw t l) (ug (s+1) l t k d (cw t l)::Gs 0) h (fun T=>aA (kJ (fun i=>min (d i) (T:Nat)) k)) hs.l30 hs.kl hs.tl hs.cyc (fun T _ _=>HW hs.kl (D6 hs.bd _ (by omega))) (by omega) (fun T _ _=>QA (n+1) (s+1) l k t d (cw t l) (Gs 0) (T:Nat) (by omega) (by omega))
  rw[C7 (q:=fun T=>cV l t (fun i=>min (d i) (T:Nat)) h) (fun T _ _=>I2 hs.fw hs.kl h)] at this
  exact this
 have hbd:Bd l (aA (kJ (fun i=>min (d i) ((iq l t d h:Nat):Int)) k)):=HW hs.kl (D6 hs.bd _ (by omega))
 generalize hT:((iq l t d h:Nat):Int)=T at hz h1 h2 h3 hy h72 hbd
 have hxa:=N8 (n+5) 2 s l k t d (cw t l) (zP l t k d T) (br (cw t l)) h T (Gs 0) hl2
 have hxm:=N9 (n+3) s l k t d (cw t l) (zP l t k d T) (br (cw t l)) h T Gs H hh hH hl2 hs.tl hz M hM h1 h2 h3 hy
 refine aL (n:=n+5) Try.func85 rfl rfl rfl (Pr (n+5) s l k t d (cw t l) (aA (kJ (fun i=>min (d i) T) k)) (MJ l t k d T) (eO l t (zP l t k d T) H (br (cw t l)) M).1 (hW l (zP l t k d T) (w0 (br (cw t l)) l)) (hW l (zP l t k d T) (eO l t (zP l t k d T) H (br (cw t l)) M).2) (gW l (zP l t k d T) (w0 (br (cw t l)) l)) (gW l (zP l t k d T) (eO l t (zP l t k d T) H (br (cw t l)) M).2) (cn (w0 (br (cw t l)) l) l) (cn (eO l t (zP l t k d T) H (br (cw t l)) M).2 l) h T (Gs 0) (Gs M)) (aS _ (n+5) (bf (Jf (n+3) (s+1) l k t d (cw t l) (ie (aG _) (fun x hx=>by rw[← Tr.ab hx];exact h72)) (by omega) (by omega)) (fun H=>MC (n+2) (s+1) l k k t d (cw t l) (aA (kJ (fun i=>min (d i) T) k)) false H hl2 hkl hs.tl hs.cyc hbd))) (aD (aD (af _ _) MU (fun x hx=>bL hx hxm)) MT (fun x hx=>bL hx hxa)) (ag _ _) ?_
 clear hxa hxm h72 hbd h1 h2 h3 hy hz
 generalize hW l (zP l t k d T) (w0 (br (cw t l)) l)=A1 at *
 generalize gW l (zP l t k d T) (w0 (br (cw t l)) l)=A2 at *
 generalize cn (w0 (br (cw t l)) l) l=A3 at *
 generalize MJ l t k d T=A4 at *
 generalize cw t l=g at *
 generalize aA (kJ (fun i=>min (d i) T) k)=Y at *
 exact wF
end
end Go.Eng
end
section
namespace Go.Eng
theorem EX (p:Nat→Bool):(oP p<40→p (oP p)=true)∧∀ M,1≤M→M<40→p M=true→oP p≤M:=by
 unfold oP
 cases c:cU (fun j=>p (j+1)) 39 with
 | true =>
   rw[if_pos rfl]
   have a:=iK c
   obtain ⟨_,_,d,b⟩:=mE (fun j=>p (j+1)) 39 0
   have b:=b (by omega)
   refine ⟨fun _=>b,fun M h1 h2 h3=>?_⟩
   apply Classical.byContradiction
   intro hc
   have:=d (M-1) (by omega) (by omega)
   rw[show M-1+1=M by omega,h3] at this
   cases this
 | false =>
   rw[if_neg (by decide)]
   refine ⟨fun h=>by omega,fun M h1 h2 h3=>?_⟩
   have:=gd c (M-1) (by omega)
   rw[show M-1+1=M by omega,h3] at this
   cases this
section
variable {l k H:Nat} {t d:Nat→Int} {h:Int}
theorem pr (hs:Sh l t k d) (hc:cV l t d h=true):cV l t (fun i=>min (d i) (iq l t d h:Nat)) h=true∧1≤iq l t d h∧iq l t d h≤40:=by
 have hb:=GR (fun T=>cV l t (fun i=>min (d i) (T:Nat)) h)
 refine ⟨?_,hb⟩
 by_cases c:iq l t d h<40
 · exact (EX (fun T=>cV l t (fun i=>min (d i) (T:Nat)) h)).1 c
 · have e:iq l t d h=40:=by have:iq l t d h≤40:=hb.2;omega
   rw[e,uF hs.fw (e':=d) (fun j hj=>by have:=hs.d40 j hj;show min (d j) ((40:Nat):Int)=d j;omega)]
   exact hc
theorem sf (hs:Sh l t k d):∀ i,i<l→br (cw t l) i=(cn (fun x=>decide (t x=(i:Int))) l:Nat):=fun i hi=>by
 rw[mC _ _ (by have:=hs.l30;omega),BD]
theorem IK (hs:Sh l t k d) (hc:cV l t d h=true):∀ i,i<l→1≤zP l t k d (iq l t d h:Nat) i:=fun i hi=>by
 obtain ⟨a,b,c⟩:=pr hs hc
 have:=(oh _ _ _ _).1 a 0 (by omega)
 rw[show h*((0:Nat):Int)=0 from Int.mul_zero h] at this
 have:=kE (p:=fun i=>decide (oO l t (fun i=>min (d i) (iq l t d h:Nat)) i≤((0:Nat):Int))) (n:=l) (by have:(ia l t (fun i=>min (d i) (iq l t d h:Nat)) ((0:Nat):Int):Int)≤0:=this;unfold ia at this;omega) i hi
 rw[decide_eq_false_iff_not] at this
 rw[zT hs _ hi];omega
theorem Kg (hs:Sh l t k d) (i:Nat) (hi:i<l) (T:Nat):zP l t k d (T:Int) i≤d i∧zP l t k d (T:Int) i≤T:=by
 rw[zT hs _ hi]
 have:=Lg (e:=fun i=>min (d i) (T:Int)) hs.fw hi
 omega
theorem GK (hs:Sh l t k d) (hc:cV l t d h=true) (hh:h=(H:Nat)):∀ i,i<l→dS l t (zP l t k d (iq l t d h:Nat)) H (br (cw t l)) (zP l t k d (iq l t d h:Nat) i).toNat i=true:=fun i hi=>by
 obtain ⟨a,b,c⟩:=pr hs hc
 have hz:=IK hs hc
 have hzi:=hz i hi
 refine Fm hs.l30 hs.tl (sf hs) hz (fun y x hy hx hyx=>?_) (fun L hL=>?_) _ i hi (by omega)
 · rw[zT hs _ hy,zT hs _ hx]
   exact GQ hs.fw hy hx hyx
 · obtain ⟨j,hj,hjL⟩:=hL
   have h40:=(Kg hs j hj (iq l t d h)).2
   have:=(oh _ _ _ _).1 a L (by omega)
   unfold ia at this
   rw[eF (q:=fun i=>decide (zP l t k d (iq l t d h:Nat) i≤(L:Int))) (fun x hx=>by rw[zT hs _ hx]),show h*(L:Int)=((H*L:Nat):Int) by rw[hh,Int.natCast_mul]] at this
   exact Int.ofNat_le.1 this
theorem vI (hs:Sh l t k d) (hc:cV l t d h=true) (hh:h=(H:Nat)) {M:Nat} (hM:M≤l) (h1:∀ m,m<M→0<cn (eO l t (zP l t k d (iq l t d h:Nat)) H (br (cw t l)) m).2 l) (h2:cn (eO l t (zP l t k d (iq l t d h:Nat)) H (br (cw t l)) M).2 l=0):M=iq l t d h:=by
 obtain ⟨a,b,c⟩:=pr hs hc
 have hl:=hs.l30
 have hl1:=hs.l1
 have hin:=GK hs hc hh
 have hlaid:=fun i hi=>DW hl hs.fw (sf hs) h2 (l-qf l t i) i hi (Nat.le_refl _)
 have hle:M≤iq l t d h:=by
  apply Classical.byContradiction
  intro hn
  obtain ⟨i,hi,hw⟩:=pK (h1 (iq l t d h) (by omega))
  have hd:=((DD (z:=zP l t k d (iq l t d h:Nat)) (H:=H) hl hs.tl (sf hs) (iq l t d h)).q2 i hi).1 hw
  have:=(Kg hs i hi (iq l t d h)).2
  rw[jk (show (zP l t k d (iq l t d h:Nat) i).toNat≤iq l t d h by omega) (hin i hi)] at hd
  cases hd.1
 have hM1:1≤M:=by
  apply Classical.byContradiction
  intro hn
  obtain rfl:M=0:=by omega
  have:=hlaid 0 (by omega)
  cases this
 have hge:iq l t d h≤M:=by
  refine (EX (fun T=>cV l t (fun i=>min (d i) (T:Nat)) h)).2 M hM1 (by omega) ?_
  refine (oh _ _ _ _).2 (fun T hT=>?_)
  have h3:ia l t (fun i=>min (d i) (M:Nat)) (T:Nat)≤cn (dS l t (zP l t k d (iq l t d h:Nat)) H (br (cw t l)) T) l:=oi (fun i hi hp=>by
   rw[decide_eq_true_eq] at hp
   obtain ⟨q,q1,q2⟩:=Ju (e:=fun i=>min (d i) (M:Nat)) hs.fw hi
   obtain ⟨s1,_⟩:=wA hs.fw hi q q1
   have s2:=jL hs.tl (show (i:Int)<l by omega) q
   have hcl:(bX t q (i:Int)).toNat<l:=by omega
   have hd1:=hs.d1 _ hcl
   have hK:dS l t (zP l t k d (iq l t d h:Nat)) H (br (cw t l)) (min (d (bX t q (i:Int)).toNat) (M:Nat)).toNat (bX t q (i:Int)).toNat=true:=by
    by_cases e:(M:Int)≤d (bX t q (i:Int)).toNat
    · exact jk (by omega) (hlaid _ hcl)
    · have:=(Kg hs _ hcl (iq l t d h)).1
      exact jk (by omega) (hin _ hcl)
   obtain ⟨e1,e2⟩:=BG hl hs.fw (sf hs) hi q _ q1 hK
   exact jk (by omega) e2)
  have h4:=H5 (z:=zP l t k d (iq l t d h:Nat)) (H:=H) hl hs.tl (sf hs) T
  rw[show h*(T:Int)=((H*T:Nat):Int) by rw[hh,Int.natCast_mul]]
  exact Int.ofNat_le.2 (Nat.le_trans h3 h4)
 omega
end
end Go.Eng
end
section
namespace Go.Eng
open Go.Proofs
noncomputable def w8 (l k:Nat) (t d:Nat→Int) (h:Int) (m:Nat):List Int:=JU l t (zP l t k d (iq l t d h:Nat)) h.toNat (br (cw t l)) m
section
variable (n s l k:Nat) (t d:Nat→Int) (h:Int) (Gs:Nat→aa)
theorem Nb (hs:Sh l t k d) (hc:cV l t d h=true) (hh:1≤h∧h≤10) (hy:∀ m,m<iq l t d h→∀ L:aW,L.lock=false→cd (n+5) (.round 1 2) [bP (w8 l k t d h m).length (aA (w8 l k t d h m)) false] (L::Gs m)=some (.bool true,L::Gs (m+1))) :
 cd (n+6) (.fn 85) [.yld 0 2,.ptrT (some 0) (.G [dv s l t k d (cw t l)]) 0,.ptrT none (.I .i64 [h]) 0] (Gs 0)=some (.tup [],Gs (iq l t d h)):=by
 have e:h=(h.toNat:Int):=by omega
 obtain ⟨M,a,b,c,f⟩:=FP (H:=h.toNat) (z:=zP l t k d (iq l t d h:Nat)) (f0:=br (cw t l)) hs.l30 hs.tl (by omega) (fun i hi=>by
  rw[sf hs i hi]
  have:=m5 (fun x=>decide (t x=(i:Int))) l
  have:=hs.l30
  omega)
 have hM:=vI hs hc e a b c
 subst hM
 exact Qz n s l k t d h Gs hs h.toNat e (by omega) (IK hs hc) _ a b c f hy
end
end Go.Eng
end
section
namespace Go.Eng
open Go.Proofs
noncomputable def wv (l:Nat) (t:Nat→Int) (k:Nat) (d:Nat→Int) (L:gQ):aW:=⟨false,[(0,.row (.G [bP l t false,bP k d false])),(0,.row (.G [.nils])),(0,.loop L)]⟩
noncomputable def jq (l:Nat) (t:Nat→Int) (k:Nat) (d:Nat→Int) (L:gQ) (v m:Nat) (f:Nat→Nat→Int) (g:Nat→Nat):aW:=⟨false,[(0,.row (.G [bP l t false,bP k d false])),(0,.row (.G [.slc 0 3 v 0 1 m none])),(0,.loop L),(v,.row (.F (fun j=>bP (g j) (f j) false) m))]⟩
end Go.Eng
end
section
namespace Go.Eng
open Go.Proofs
def PW (x l:Int):List AV→Option (Prop×AV)
 | [.int .u64 y]=>some (y=x,.int .i64 l)
 | _=>none
noncomputable def fD (p:Int) (mk z:Nat→Int) (s:AV) (v m:Nat):aW:=⟨false,[(v,.row (.M [.arr .i64 z m]))]⟩
noncomputable def wa (v m:Nat) (i:Int):ao:=[(0,.slc 3 0 v 0 1 m (some m)),(1,.int .i64 0),(2,.int .i64 (Int.ofNat m)),(6,.int .i64 i)]
noncomputable def oG (v m:Nat) (i j:Int):ao:=[(0,.slc 3 0 v 0 1 m (some m)),(1,.int .i64 0),(2,.int .i64 (Int.ofNat m)),(6,.int .i64 i),(7,.int .i64 j)]
theorem S4 (n:Nat) (H:aa) (p:Int) (mk z z2:Nat→Int) (s:AV) (v m:Nat) (lim:Int):aZ Try.prog (cd (n+4)) 100000 63 Try.f63 (KtL.kt 63) (il (Ah (Ag aH 91 [.slc 1 0 v 0 1 m (some m),.int .i64 0,.int .i64 (Int.ofNat m),.int .i64 lim] (aB::fD p mk z s v m::H) (.ok (.tup [],aB::fD p mk z2 s v m::H))) 92 (PW (Int.ofNat m) lim)) (n+4) 0) aN aO [(.slc 0 0 v 0 1 m (some m),none)] (fD p mk z s v m::H) =
 (fun (Z0:List AV)=>Tr.reqP (DK IntKind.u64 (Int.ofNat m)=Int.ofNat m) (Tr.reqP (Z0=Z0∧aB::{ lock:=false,bs:=[(v,ak.row (Row.M [ah.arr .i64 z m]))] } :: H=aB::{ lock:=false,bs:=[(v,ak.row (Row.M [ah.arr .i64 z m]))] } :: H) (Tr.ok ((AV.tup [],none),{ lock:=false,bs:=[(v,ak.row (Row.M [ah.arr .i64 z2 m]))] } :: H)))) [AV.slc 1 0 v 0 1 m (some m),AV.int .i64 (Int.ofNat 0),AV.int .i64 (Int.ofNat m),AV.int .i64 lim]:=by kernel_rfl
theorem Te (n:Nat) (H:aa) (p:Int) (mk z z2:Nat→Int) (s:AV) (v m:Nat) (lim:Int):aZ Try.prog (cd (n+3)) 100000 91 Try.f91 (KtL.kt 91) (il (Ag aH 96 [.slc 2 0 v 0 1 m (some m),.int .i64 0,.int .i64 (Int.ofNat m)] (aB::aB::fD p mk z s v m::H) (.ok (.tup [],aB::aB::fD p mk z2 s v m::H))) (n+3) 0) aN aO [(.slc 1 0 v 0 1 m (some m),none),(.int .i64 0,none),(.int .i64 (Int.ofNat m),none),(.int .i64 lim,none)] (aB::fD p mk z s v m::H) =
 Tr.ite (jF (bB .i64 (Int.ofNat m) (Int.ofNat 0)) (Int.ofNat 12)) (Tr.reqP ([AV.slc 2 0 v 0 1 m (some m),AV.int .i64 (Int.ofNat 0),AV.int .i64 (Int.ofNat m)]=[AV.slc 2 0 v 0 1 m (some m),AV.int .i64 (Int.ofNat 0),AV.int .i64 (Int.ofNat m)]∧aB::aB::{ lock:=false,bs:=[(v,ak.row (Row.M [ah.arr .i64 z m]))] } :: H=aB::aB::{ lock:=false,bs:=[(v,ak.row (Row.M [ah.arr .i64 z m]))] } :: H) (Tr.ok ((AV.tup [],none),aB::{ lock:=false,bs:=[(v,ak.row (Row.M [ah.arr .i64 z2 m]))] } :: H))) (Tr.ite (bJ lim (Int.ofNat 0)) Tr.bad Tr.bad):=by kernel_rfl
theorem Th (n:Nat) (H:aa) (p:Int) (mk z z2:Nat→Int) (s:AV) (v m:Nat) (i2:Int):aZ Try.prog (cd (n+2)) 100000 96 Try.f96 (KtL.kt 96) (il aH n 2) (bZ aN 0 (wa v m (bE .i64 0 1)) (aB::aB::aB::fD p mk z s v m::H) (.ok (.normal,hints (wa v m i2++[(12,.bool false)]),aB::aB::aB::fD p mk z2 s v m::H))) aO [(.slc 2 0 v 0 1 m (some m),none),(.int .i64 0,none),(.int .i64 (Int.ofNat m),none)] (aB::aB::fD p mk z s v m::H) =
 (fun (Z0:ao)=>Tr.reqP (Z0=Z0∧aB::aB::aB::{ lock:=false,bs:=[(v,ak.row (Row.M [ah.arr .i64 z m]))] } :: H=aB::aB::aB::{ lock:=false,bs:=[(v,ak.row (Row.M [ah.arr .i64 z m]))] } :: H) (Tr.ok ((AV.tup [],none),aB::aB::{ lock:=false,bs:=[(v,ak.row (Row.M [ah.arr .i64 z2 m]))] } :: H))) [(0,AV.slc 3 0 v 0 1 m (some m)),(1,AV.int .i64 (Int.ofNat 0)),(2,AV.int .i64 (Int.ofNat m)),(6,AV.int .i64 (bE .i64 (Int.ofNat 0) (Int.ofNat 1)))]:=by kernel_rfl
theorem OY (n:Nat) (H:aa) (p:Int) (mk z z2:Nat→Int) (s:AV) (v m:Nat) (i j2:Int):aQ (bt (n+2) 96 49) (il aH n 2) (bZ aN 2 (oG v m i i) (aB::aB::aB::fD p mk z s v m::H) (.ok (.normal,hints (oG v m i j2++[(30,.bool false)]),aB::aB::aB::fD p mk z2 s v m::H))) aO (part Try.f96 [1,0,0]) (hints (wa v m i)) (aB::aB::aB::fD p mk z s v m::H) =
 (fun (Z0:ao)=>((fun (Z1:aW)=>Tr.ite (bV i (Int.ofNat m)) (Tr.reqP (Z0=Z0∧aB::aB::aB::Z1::H=aB::aB::aB::Z1::H) (Tr.ok (Ex.normal,[(0,AV.slc 3 0 v 0 1 m (some m),none),(1,AV.int .i64 (Int.ofNat 0),none),(2,AV.int .i64 (Int.ofNat m),none),(6,AV.int .i64 (bE .i64 i (Int.ofNat 1)),none)],aB::aB::aB::{ lock:=false,bs:=[(v,ak.row (Row.M [ah.arr .i64 z2 m]))] } :: H))) (Tr.ok (Ex.exit 0,[(0,AV.slc 3 0 v 0 1 m (some m),none),(1,AV.int .i64 (Int.ofNat 0),none),(2,AV.int .i64 (Int.ofNat m),none),(6,AV.int .i64 i,none),(12,AV.bool false,some 1)],aB::aB::aB::Z1::H))) { lock:=false,bs:=[(v,ak.row (Row.M [ah.arr .i64 z m]))] })) [(0,AV.slc 3 0 v 0 1 m (some m)),(1,AV.int .i64 (Int.ofNat 0)),(2,AV.int .i64 (Int.ofNat m)),(6,AV.int .i64 i),(7,AV.int .i64 i)]:=by kernel_rfl
theorem OX (n:Nat) (H:aa) (p:Int) (mk z:Nat→Int) (s:AV) (v m:Nat) (i:Int):aQ (bt (n+2) 96 49) (il aH n 2) (mw aN 2) aO (part Try.f96 [1,0,0]) (hints (wa v m i)) (aB::aB::aB::fD p mk z s v m::H) =
 Tr.ite (bV i (Int.ofNat m)) Tr.bad (Tr.ok (Ex.exit 0,[(0,AV.slc 3 0 v 0 1 m (some m),none),(1,AV.int .i64 (Int.ofNat 0),none),(2,AV.int .i64 (Int.ofNat m),none),(6,AV.int .i64 i,none),(12,AV.bool false,some 1)],aB::aB::aB::{ lock:=false,bs:=[(v,ak.row (Row.M [ah.arr .i64 z m]))] } :: H)):=by kernel_rfl
theorem J5 (n:Nat) (H:aa) (p:Int) (mk z:Nat→Int) (s:AV) (v m:Nat) (i j:Int):aQ (bt (n+2) 96 49) (il aH n 2) aN aO (part Try.f96 [1,0,0,1,0,0,1,0,0]) (hints (oG v m i j)) (aB::aB::aB::fD p mk z s v m::H) =
 (fun (Z0:aI)=>((fun (Z1:aI)=>((fun (Z2:aW)=>((fun (Z3:aW)=>Tr.ite (bV (Int.ofNat 0) j) (Tr.req (cS j m) (Tr.req (cu v v) (Tr.req (cJ (ar 0 j 1) m) (Tr.req (cS (bB .i64 j (Int.ofNat 1)) m) (Tr.req (cu v v) (Tr.req (cJ (ar 0 (bB .i64 j (Int.ofNat 1)) 1) m) (Tr.ite (ay (bJ (z (ar 0 j 1)) (z (ar 0 j 1)))) (Tr.ite (ay (ay (bJ (z (ar 0 (bB .i64 j (Int.ofNat 1)) 1)) (z (ar 0 (bB .i64 j (Int.ofNat 1)) 1))))) (Tr.req (cS (bB .i64 j (Int.ofNat 1)) m) (Tr.req (cu v v) (Tr.req (cJ (ar 0 (bB .i64 j (Int.ofNat 1)) 1) m) (Tr.req (cS j m) (Tr.req (cu v v) (Tr.req (cJ (ar 0 j 1) m) (Tr.req (cS j m) (Tr.req (cu v v) (Tr.req (cJ (ar 0 j 1) m) (Tr.req (jP (ik v v) (ik v (Nat.succ v))) (Tr.req (cS (bB .i64 j (Int.ofNat 1)) m) (Tr.req (cu v v) (Tr.req (cJ (ar 0 (bB .i64 j (Int.ofNat 1)) 1) m) (Tr.req (jP (ik v v) (ik v (Nat.succ v))) (Tr.ok (Ex.normal,Z1,aB::aB::aB::Z2::H)))))))))))))))) (Tr.ite (bV (z (ar 0 j 1)) (z (ar 0 (bB .i64 j (Int.ofNat 1)) 1))) (Tr.req (cS (bB .i64 j (Int.ofNat 1)) m) (Tr.req (cu v v) (Tr.req (cJ (ar 0 (bB .i64 j (Int.ofNat 1)) 1) m) (Tr.req (cS j m) (Tr.req (cu v v) (Tr.req (cJ (ar 0 j 1) m) (Tr.req (cS j m) (Tr.req (cu v v) (Tr.req (cJ (ar 0 j 1) m) (Tr.req (jP (ik v v) (ik v (Nat.succ v))) (Tr.req (cS (bB .i64 j (Int.ofNat 1)) m) (Tr.req (cu v v) (Tr.req (cJ (ar 0 (bB .i64 j (Int.ofNat 1)) 1) m) (Tr.req (jP (ik v v) (ik v (Nat.succ v))) (Tr.ok (Ex.normal,Z1,aB::aB::aB::Z2::H)))))))))))))))) (Tr.ok (Ex.exit 2,Z0,aB::aB::aB::Z3::H)))) (Tr.ite (bV (z (ar 0 j 1)) (z (ar 0 (bB .i64 j (Int.ofNat 1)) 1))) (Tr.req (cS (bB .i64 j (Int.ofNat 1)) m) (Tr.req (cu v v) (Tr.req (cJ (ar 0 (bB .i64 j (Int.ofNat 1)) 1) m) (Tr.req (cS j m) (Tr.req (cu v v) (Tr.req (cJ (ar 0 j 1) m) (Tr.req (cS j m) (Tr.req (cu v v) (Tr.req (cJ (ar 0 j 1) m) (Tr.req (jP (ik v v) (ik v (Nat.succ v))) (Tr.req (cS (bB .i64 j (Int.ofNat 1)) m) (Tr.req (cu v v) (Tr.req (cJ (ar 0 (bB .i64 j (Int.ofNat 1)) 1) m) (Tr.req (jP (ik v v) (ik v (Nat.succ v))) (Tr.ok (Ex.normal,Z1,aB::aB::aB::Z2::H)))))))))))))))) (Tr.ok (Ex.exit 2,Z0,aB::aB::aB::Z3::H)))))))))) (Tr.ok (Ex.exit 2,Z0,aB::aB::aB::Z3::H))) { lock:=false,bs:=[(v,ak.row (Row.M [ah.arr .i64 z m]))] })) { lock:=false,bs:=[(v,ak.row (Row.M [ah.arr .i64 (fH (fH z (ar 0 j 1) (z (ar 0 (bB .i64 j (Int.ofNat 1)) 1))) (ar 0 (bB .i64 j (Int.ofNat 1)) 1) (z (ar 0 j 1))) m]))] })) [(0,AV.slc 3 0 v 0 1 m (some m),none),(1,AV.int .i64 (Int.ofNat 0),none),(2,AV.int .i64 (Int.ofNat m),none),(6,AV.int .i64 i,none),(7,AV.int .i64 (bB .i64 j (Int.ofNat 1)),none)])) [(0,AV.slc 3 0 v 0 1 m (some m),none),(1,AV.int .i64 (Int.ofNat 0),none),(2,AV.int .i64 (Int.ofNat m),none),(6,AV.int .i64 i,none),(7,AV.int .i64 j,none),(30,AV.bool false,some 1)]:=by kernel_rfl
noncomputable def Ko (z:Nat→Int) (j:Nat):Nat→Int:=fH (fH z j (z (j-1))) (j-1) (z j)
noncomputable def yi (z:Nat→Int):Nat→Nat→Int
 | 0=>z
 | j+1=>if z (j+1)<z j then yi (Ko z (j+1)) j else z
noncomputable def mZ (z:Nat→Int):Nat→Nat→Int
 | 0=>z
 | k+1=>yi (mZ z k) (k+1)
section
variable (n:Nat) (H:aa) (p:Int) (mk z:Nat→Int) (s:AV) (v m:Nat)
theorem Qd:∀ b,(0,b) ∈ aJ (bm Try.f96)→b=.loop (part Try.f96 [1,0,0]):=fa (by kernel_rfl)
theorem MV:∀ b,(2,b) ∈ aJ (part Try.f96 [1,0,0])→b=.loop (part Try.f96 [1,0,0,1,0,0,1,0,0]):=fa (by kernel_rfl)
theorem Oa (i:Nat) (hi:i<m) (hm:m≤100):∃ y:ao×aa,exec (bt (n+2) 96 49) (.block 2 (.loop (part Try.f96 [1,0,0,1,0,0,1,0,0]))) (oG v m i i) (aB::aB::aB::fD p mk z s v m::H)=some (.normal,y)∧∃ j2:Int,y=(oG v m i j2++[(30,.bool false)],aB::aB::aB::fD p mk (yi z i) s v m::H):=by
 refine EZ (n:=n+2) (f:=96) (nt:=49) (c:=part Try.f96 [1,0,0,1,0,0,1,0,0]) 2 (fun k fr G=>∃ (z':Nat→Int) (j:Nat),j+k=i∧fr=oG v m i j∧G=aB::aB::aB::fD p mk z' s v m::H∧yi z' j=yi z i) _ (i+1) (by omega) ⟨z,i,by omega,rfl,rfl,rfl⟩ (fun k fr G hI=>?_)
 obtain ⟨z',j,h1,rfl,rfl,h2⟩:=hI
 rw[← h2]
 cases j with
 | zero =>
   obtain ⟨x,hx1,hx2⟩:=aK (Q:=fun x=>x=(.exit 2,oG v m i ((0:Nat):Int)++[(30,.bool false)],aB::aB::aB::fD p mk z' s v m::H)) (J5 n H p mk z' s v m (i:Int) ((0:Nat):Int)) (lD n 2) (af _ _) (ag _ _) (by
    exact wF)
   exact ⟨x,hx1,.inr (by rw[hx2];exact ⟨rfl,_,rfl⟩)⟩
 | succ j =>
   have es:bB .i64 ((j+1:Nat):Int) (Int.ofNat 1)=(j:Int):=by rw[mP,show Int.ofNat 1=1 from rfl,pw (by omega) (by omega)];omega
   have ed:ar 0 ((j+1:Nat):Int) 1=j+1:=by rw[kQ];omega
   have ee:ar 0 (j:Int) 1=j:=by rw[kQ];omega
   have eu:fH (fH z' (j+1) (z' j)) j (z' (j+1))=Ko z' (j+1):=rfl
   by_cases hlt:z' (j+1)<z' j
   · obtain ⟨x,hx1,hx2⟩:=aK (Q:=fun x=>x.1=.normal∧tidy 0 x.2.1 x.2.2=(oG v m i (j:Int),aB::aB::aB::fD p mk (Ko z' (j+1)) s v m::H)) (J5 n H p mk z' s v m (i:Int) ((j+1:Nat):Int)) (lD n 2) (af _ _) (ag _ _) (by
      rw[es,ed,ee,eu]
      exact wF)
     refine ⟨x,hx1,.inl ⟨hx2.1,by omega,Ko z' (j+1),j,by omega,?_,?_,?_⟩⟩
     · have:=congrArg Prod.fst hx2.2
       exact this
     · have:=congrArg Prod.snd hx2.2
       exact this
     · show _=(if z' (j+1)<z' j then yi (Ko z' (j+1)) j else z')
       rw[if_pos hlt]
   · obtain ⟨x,hx1,hx2⟩:=aK (Q:=fun x=>x=(.exit 2,oG v m i ((j+1:Nat):Int)++[(30,.bool false)],aB::aB::aB::fD p mk z' s v m::H)) (J5 n H p mk z' s v m (i:Int) ((j+1:Nat):Int)) (lD n 2) (af _ _) (ag _ _) (by
      rw[es,ed,ee,eu]
      exact wF)
     refine ⟨x,hx1,.inr ?_⟩
     rw[hx2]
     refine ⟨rfl,((j+1:Nat):Int),?_⟩
     rw[show yi z' (j+1)=(if z' (j+1)<z' j then yi (Ko z' (j+1)) j else z') from rfl,if_neg hlt]
theorem Ss (h1:1≤m) (hm:m≤100):exec (bt (n+2) 96 49) (.block 0 (.loop (part Try.f96 [1,0,0]))) (wa v m ((1:Nat):Int)) (aB::aB::aB::fD p mk z s v m::H)=some (.normal,wa v m ((m:Nat):Int)++[(12,.bool false)],aB::aB::aB::fD p mk (mZ z (m-1)) s v m::H):=by
 have:=jD (n:=n+2) (f:=96) (nt:=49) (c:=part Try.f96 [1,0,0]) 0 (fun k=>wa v m ((k+1:Nat):Int)) (fun k=>aB::aB::aB::fD p mk (mZ z k) s v m::H) (m-1) (wa v m ((m:Nat):Int)++[(12,.bool false)],aB::aB::aB::fD p mk (mZ z (m-1)) s v m::H) (by omega) (fun k hk=>?_) ?_
 · exact this
 · obtain ⟨y,hy,j2,rfl⟩:=Oa n H p mk (mZ z k) s v m (k+1) (by omega) hm
   have ej:bE .i64 ((k+1:Nat):Int) (Int.ofNat 1)=((k+1+1:Nat):Int):=by rw[jg,show Int.ofNat 1=1 from rfl];exact pw (by omega) (by omega)
   refine aK (OY n H p mk (mZ z k) (mZ z (k+1)) s v m ((k+1:Nat):Int) j2) (lD n 2) (aD (af _ _) MV (fun x hx=>by rw[← Tr.ab hx];simp only[n6.st,gZ];exact hy)) (ag _ _) ?_
   rw[ej]
   exact wF
 · have e:((m-1+1:Nat):Int)=(m:Int):=by omega
   rw[e]
   obtain ⟨x,h1,rfl⟩:=aK (Q:=fun x=>x=(.exit 0,wa v m ((m:Nat):Int)++[(12,.bool false)],aB::aB::aB::fD p mk (mZ z (m-1)) s v m::H)) (OX n H p mk (mZ z (m-1)) s v m (m:Int)) (lD n 2) (dW (af _ _) 2) (ag _ _) (by
    exact wF)
   exact h1
theorem QI (h1:1≤m) (hm:m≤100):cd (n+3) (.fn 96) [.slc 2 0 v 0 1 m (some m),.int .i64 0,.int .i64 (Int.ofNat m)] (aB::aB::fD p mk z s v m::H)=some (.tup [],aB::aB::fD p mk (mZ z (m-1)) s v m::H):=by
 have l:=Ss n H p mk z s v m h1 hm
 have e1:bE .i64 0 1=((1:Nat):Int):=by rw[jg];rfl
 refine aL (n:=n+2) Try.func96 rfl rfl rfl (Th n H p mk z (mZ z (m-1)) s v m ((m:Nat):Int)) (lD n 2) (aD (af _ _) Qd (fun x hx=>by rw[← Tr.ab hx,e1];simp only[n6.st,gZ];exact l)) (ag _ _) ?_
 exact wF
theorem QF (h1:1≤m) (hm:m≤12) (lim:Int):cd (n+4) (.fn 91) [.slc 1 0 v 0 1 m (some m),.int .i64 0,.int .i64 (Int.ofNat m),.int .i64 lim] (aB::fD p mk z s v m::H)=some (.tup [],aB::fD p mk (mZ z (m-1)) s v m::H):=by
 refine aL (n:=n+3) Try.func91 rfl rfl rfl (Te n H p mk z (mZ z (m-1)) s v m lim) (yh _ (n+3) 0 (fun k=>ie (aG _) (fun x hx=>?_))) (af _ _) (ag _ _) ?_
 · rw[← Tr.ab hx,show n+3+k=n+k+3 by omega]
   exact QI (n+k) H p mk z s v m h1 (by omega)
 · exact wF
def oS (x:Nat):Int:=if x<2 then 1 else if x<4 then 2 else if x<8 then 3 else 4
theorem KD (n:Nat) (H:aa):cd (n+3) (.fn 92) [.int .u64 (Int.ofNat 1)] H=some (.int .i64 (oS 1),H):=by kernel_rfl
theorem KE (n:Nat) (H:aa):cd (n+3) (.fn 92) [.int .u64 (Int.ofNat 2)] H=some (.int .i64 (oS 2),H):=by kernel_rfl
theorem KF (n:Nat) (H:aa):cd (n+3) (.fn 92) [.int .u64 (Int.ofNat 3)] H=some (.int .i64 (oS 3),H):=by kernel_rfl
theorem KG (n:Nat) (H:aa):cd (n+3) (.fn 92) [.int .u64 (Int.ofNat 4)] H=some (.int .i64 (oS 4),H):=by kernel_rfl
theorem KH (n:Nat) (H:aa):cd (n+3) (.fn 92) [.int .u64 (Int.ofNat 5)] H=some (.int .i64 (oS 5),H):=by kernel_rfl
theorem KI (n:Nat) (H:aa):cd (n+3) (.fn 92) [.int .u64 (Int.ofNat 6)] H=some (.int .i64 (oS 6),H):=by kernel_rfl
theorem KJ (n:Nat) (H:aa):cd (n+3) (.fn 92) [.int .u64 (Int.ofNat 7)] H=some (.int .i64 (oS 7),H):=by kernel_rfl
theorem KL (n:Nat) (H:aa):cd (n+3) (.fn 92) [.int .u64 (Int.ofNat 8)] H=some (.int .i64 (oS 8),H):=by kernel_rfl
theorem KM (n:Nat) (H:aa):cd (n+3) (.fn 92) [.int .u64 (Int.ofNat 9)] H=some (.int .i64 (oS 9),H):=by kernel_rfl
theorem IY (n:Nat) (H:aa):cd (n+3) (.fn 92) [.int .u64 (Int.ofNat 10)] H=some (.int .i64 (oS 10),H):=by kernel_rfl
theorem IZ (n:Nat) (H:aa):cd (n+3) (.fn 92) [.int .u64 (Int.ofNat 11)] H=some (.int .i64 (oS 11),H):=by kernel_rfl
theorem I0 (n:Nat) (H:aa):cd (n+3) (.fn 92) [.int .u64 (Int.ofNat 12)] H=some (.int .i64 (oS 12),H):=by kernel_rfl
theorem QG (x:Nat) (hx:1≤x∧x≤12) (n:Nat) (H:aa):cd (n+3) (.fn 92) [.int .u64 (Int.ofNat x)] H=some (.int .i64 (oS x),H):=by
 have:x=1∨x=2∨x=3∨x=4∨x=5∨x=6∨x=7∨x=8∨x=9∨x=10∨x=11∨x=12:=by omega
 rcases this with rfl | rfl | rfl | rfl | rfl | rfl | rfl | rfl | rfl | rfl | rfl | rfl
 · exact KD n H
 · exact KE n H
 · exact KF n H
 · exact KG n H
 · exact KH n H
 · exact KI n H
 · exact KJ n H
 · exact KL n H
 · exact KM n H
 · exact IY n H
 · exact IZ n H
 · exact I0 n H
theorem Qu (h1:1≤m) (hm:m≤12):cd (n+5) (.fn 63) [.slc 0 0 v 0 1 m (some m)] (fD p mk z s v m::H)=some (.tup [],fD p mk (mZ z (m-1)) s v m::H):=by
 have ew:DK .u64 (Int.ofNat m)=Int.ofNat m:=by
  rw[AZ]
  simp only[IntKind.wrap,IntKind.signed,IntKind.bits]
  simp
  omega
 refine aL (n:=n+4) Try.func63 rfl rfl rfl (S4 n H p mk z (mZ z (m-1)) s v m (oS m)) (yh _ (n+4) 0 (fun k=>pL (ie (aG _) (fun x hx=>?_)) (fun args p' v' hg hp H=>?_))) (af _ _) (ag _ _) ?_
 · rw[← Tr.ab hx,show n+4+k=n+k+4 by omega]
   exact QF (n+k) H p mk z s v m h1 hm _
 · unfold PW at hg
   split at hg
   · simp only[nP] at hg
     obtain ⟨rfl,rfl⟩:=hg
     subst hp
     rw[show n+4+k=n+1+k+3 by omega]
     exact QG m ⟨h1,hm⟩ _ H
   · cases hg
 · rw[ew]
   refine Tr.bn rfl (Tr.bn ⟨rfl,rfl⟩ (Tr.bk ⟨rfl,rfl⟩))
end
end Go.Eng
end
