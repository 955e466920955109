/- Lay: plan: as many turns as are wanted. -/
import Derived.Test.YtoomemfhcbajoaaV6Lb29x4
set_option linter.unusedVariables false
set_option linter.unusedSimpArgs false
set_option maxRecDepth 100000
section
namespace Go.Eng
theorem Jw {t e:Nat→Int} {i:Nat} {v:Int}:∀ m,v≤D3 t e i m↔v≤e i∧∀ q,q<m→v≤e (bE t q (i:Int)).toNat-(q:Int)
 | 0=>by
   show v≤e i↔_
   exact ⟨fun h=>⟨h,fun q hq=>by omega⟩,fun h=>h.1⟩
 | m + 1=>by
   show v≤min (D3 t e i m) (e (bE t m (i:Int)).toNat-(m:Int))↔_
   have ih:=Jw (t:=t) (e:=e) (i:=i) (v:=v) m
   constructor
   · intro h
     obtain ⟨a,b⟩:=ih.1 (by omega)
     refine ⟨a,fun q hq=>?_⟩
     by_cases c:q=m
     · subst c;omega
     · exact b q (by omega)
   · intro h
     have a:=ih.2 ⟨h.1,fun q hq=>h.2 q (by omega)⟩
     have b:=h.2 m (by omega)
     omega
theorem rp {l:Nat} {t e:Nat→Int} {i:Nat} {v:Int} (h:Fw l t) (hi:i<l):v≤nZ l t e i↔∀ q,q<eP l t i→v≤e (bE t q (i:Int)).toNat-(q:Int):=by
 unfold nZ
 rw[Jw]
 refine ⟨fun h=>h.2,fun hq=>⟨?_,hq⟩⟩
 have:=hq 0 (by have:=qA h hi;omega)
 have e0:bE t 0 (i:Int)=(i:Int):=rfl
 rw[e0,Int.toNat_natCast] at this
 omega
theorem um {t:Nat→Int} {y x:Nat} (hy:t y=(x:Int)):∀ q,bE t (q+1) (y:Int)=bE t q (x:Int)
 | 0=>by
   show (if _ then _ else _)=(x:Int)
   have e0:bE t 0 (y:Int)=(y:Int):=rfl
   simp[e0,hy]
 | q+1=>by
   have ih:=um hy q
   show (if _ then _ else _)=(if _ then _ else _)
   rw[ih]
theorem xo {l:Nat} {t:Nat→Int} {y x:Nat} (h:Fw l t) (hy:y<l) (hx:t y=(x:Int)):eP l t y=eP l t x+1:=by
 obtain ⟨a1,a2,a3⟩:=jS h.cyc y hy
 have hp:=qA h hy
 have e1:bE t 1 (y:Int)=(x:Int):=um hx 0
 have hne:eP l t y≠1:=fun c=>by
  rw[c,e1] at a3;omega
 have:=(lx h hy 1 (by omega)).2
 rw[e1,Int.toNat_natCast] at this
 omega
theorem H7 {l:Nat} {t e:Nat→Int} {y x:Nat} (h:Fw l t) (hy:y<l) (hx:x<l) (hyx:t y=(x:Int)):nZ l t e y≤nZ l t e x-1:=by
 have hl:=xo h hy hyx
 have:=(rp (e:=e) (v:=nZ l t e y) h hy).1 (Int.le_refl _)
 have h2:nZ l t e y+1≤nZ l t e x:=(rp h hx).2 (fun q hq=>by
  have:=this (q+1) (by omega)
  rw[um hyx] at this
  omega)
 omega
theorem F7 {l:Nat} {t e:Nat→Int} {i:Nat} (h:Fw l t) (hi:i<l):nZ l t e i≤e i:=by
 have:=(rp (e:=e) (v:=nZ l t e i) h hi).1 (Int.le_refl _) 0 (by have:=qA h hi;omega)
 have e0:bE t 0 (i:Int)=(i:Int):=rfl
 rw[e0,Int.toNat_natCast] at this
 omega
theorem KJ {l:Nat} {t e:Nat→Int} {i:Nat} (h:Fw l t) (hi:i<l):∃ q,q<eP l t i∧nZ l t e i=e (bE t q (i:Int)).toNat-(q:Int):=by
 apply Classical.byContradiction
 intro hno
 have h1:=(rp (e:=e) (v:=nZ l t e i) h hi).1 (Int.le_refl _)
 have:nZ l t e i+1≤nZ l t e i:=(rp h hi).2 (fun q hq=>by
  have a:=h1 q hq
  have b:nZ l t e i≠e (bE t q (i:Int)).toNat-(q:Int):=fun c=>hno ⟨q,hq,c⟩
  omega)
 omega
section
variable {l H:Nat} {t z f0:Nat→Int}
theorem P9 (hl:l≤30) (ht:∀ i,i<l→t i<l) (h0:∀ i,i<l→f0 i=(cn (fun x=>decide (t x=(i:Int))) l:Nat)) {y x:Nat} (hy:y<l) (hx:x<l) (hyx:t y=(x:Int)):∀ m,dS l t z H f0 m x=true→0<m∧dS l t z H f0 (m-1) y=true
 | 0,h=>by cases h
 | m + 1,h=>by
   refine ⟨by omega,?_⟩
   show dS l t z H f0 m y=true
   have h:(dS l t z H f0 m x || decide (x ∈ rH l t z H f0 m))=true:=h
   cases hd:dS l t z H f0 m x with
   | true =>
     obtain ⟨a,b⟩:=P9 hl ht h0 hy hx hyx m hd
     exact h9 (by omega) b
   | false =>
     rw[hd,Bool.false_or,decide_eq_true_eq] at h
     have hq:=BI (z:=z) (H:=H) hl ht h0 m
     have hf:=((hq.q2 x hx).1 (pE H x h)).2
     rw[hq.q1 x hx] at hf
     have:=kV (p:=fun a=>decide (t a=(x:Int)) && !dS l t z H f0 m a) (n:=l) (by omega) y hy
     rw[decide_eq_true hyx,Bool.true_and,Bool.not_eq_false'] at this
     exact this
theorem CA (hl:l≤30) (h:Fw l t) (h0:∀ i,i<l→f0 i=(cn (fun x=>decide (t x=(i:Int))) l:Nat)) {i:Nat} (hi:i<l):∀ q m,q<eP l t i→dS l t z H f0 m (bE t q (i:Int)).toNat=true→q<m∧dS l t z H f0 (m-q) i=true
 | 0,m,_,hd=>by
   have e0:bE t 0 (i:Int)=(i:Int):=rfl
   rw[e0,Int.toNat_natCast] at hd
   refine ⟨?_,hd⟩
   cases m with
   | zero=>cases hd
   | succ m=>omega
 | q + 1,m,hq,hd=>by
   obtain ⟨a1,_⟩:=lx h hi (q+1) hq
   obtain ⟨b1,_⟩:=lx h hi q (by omega)
   have hb:(bE t q (i:Int)).toNat<l:=by
    have:=fz h.tl (show (i:Int)<l by omega) q
    omega
   have ha:(bE t (q+1) (i:Int)).toNat<l:=by
    have:=fz h.tl (show (i:Int)<l by omega) (q+1)
    omega
   have hs:t (bE t q (i:Int)).toNat=((bE t (q+1) (i:Int)).toNat:Int):=by
    have:bE t (q+1) (i:Int)=t (bE t q (i:Int)).toNat:=by
     show (if _ then _ else _)=_
     simp;omega
    rw[← this];omega
   obtain ⟨c1,c2⟩:=P9 hl h.tl h0 hb ha hs m hd
   obtain ⟨d1,d2⟩:=CA hl h h0 hi q (m-1) (by omega) c2
   refine ⟨by omega,?_⟩
   rw[show m-(q+1)=m-1-q by omega];exact d2
theorem K9 {w:Nat→Bool}:(bx l z w H).1.length≤H:=by
 obtain ⟨r,h1,h2,h3,h4⟩:=mJ (l:=l) (z:=z) (w:=w) H
 have:=tP r h2
 unfold fp at this
 rw[List.length_map] at this
 rw[h3];omega
theorem Jh (hl:l≤30) (ht:∀ i,i<l→t i<l) (h0:∀ i,i<l→f0 i=(cn (fun x=>decide (t x=(i:Int))) l:Nat)):∀ m,cn (dS l t z H f0 m) l≤H*m
 | 0=>by
   have:cn (dS l t z H f0 0) l=0:=mW (fun j _=>rfl)
   rw[this];exact Nat.zero_le _
 | m + 1=>by
   have ih:=Jh hl ht h0 m
   obtain ⟨r,h1,h2,h3,h4⟩:=mJ (l:=l) (z:=z) (w:=(eQ l t z H f0 m).2) H
   obtain ⟨_,a2,a3⟩:=zY (BI (z:=z) (H:=H) hl ht h0 m) r h2
   rw[← h3] at a2 a3
   have hc:=A7 a2 (fun i hi=>(a3 i hi).1)
   have hm:=K9 (l:=l) (H:=H) (z:=z) (w:=(eQ l t z H f0 m).2)
   have key:∀ n,cn (dS l t z H f0 (m+1)) n≤cn (dS l t z H f0 m) n+cn (fun i=>decide (i ∈ (bx l z (eQ l t z H f0 m).2 H).1)) n:=by
    intro n
    induction n with
    | zero=>exact Nat.le_refl _
    | succ n ihn =>
      show cn _ n+(dS l t z H f0 m n || decide (n ∈ (bx l z (eQ l t z H f0 m).2 H).1)).toNat≤(cn _ n+(dS l t z H f0 m n).toNat)+(cn _ n+(decide (n ∈ (bx l z (eQ l t z H f0 m).2 H).1)).toNat)
      have:(dS l t z H f0 m n || decide (n ∈ (bx l z (eQ l t z H f0 m).2 H).1)).toNat≤(dS l t z H f0 m n).toNat+(decide (n ∈ (bx l z (eQ l t z H f0 m).2 H).1)).toNat:=by
       cases dS l t z H f0 m n<;>cases decide (n ∈ (bx l z (eQ l t z H f0 m).2 H).1)<;>decide
      omega
   have:=key l
   rw[Nat.mul_succ]
   omega
theorem EO (hl:l≤30) (h:Fw l t) (h0:∀ i,i<l→f0 i=(cn (fun x=>decide (t x=(i:Int))) l:Nat)) {m:Nat} (hw:cn (eQ l t z H f0 m).2 l=0):∀ k i,i<l→l-eP l t i≤k→dS l t z H f0 m i=true:=by
 have hq:=BI (z:=z) (H:=H) hl h.tl h0 m
 intro k
 induction k with
 | zero =>
   intro i hi hk
   cases hd:dS l t z H f0 m i with
   | true=>rfl
   | false =>
     have hw1:=kV hw i hi
     have hf:(eQ l t z H f0 m).1 i≠0:=fun c=>by rw[(hq.q2 i hi).2 ⟨hd,c⟩] at hw1;cases hw1
     rw[hq.q1 i hi] at hf
     obtain ⟨y,y1,y2⟩:=qa (p:=fun x=>decide (t x=(i:Int)) && !dS l t z H f0 m x) (n:=l) (by omega)
     simp only[Bool.and_eq_true,decide_eq_true_eq] at y2
     have:=xo h y1 y2.1
     have:=qA h y1
     omega
 | succ k ih =>
   intro i hi hk
   cases hd:dS l t z H f0 m i with
   | true=>rfl
   | false =>
     have hw1:=kV hw i hi
     have hf:(eQ l t z H f0 m).1 i≠0:=fun c=>by rw[(hq.q2 i hi).2 ⟨hd,c⟩] at hw1;cases hw1
     rw[hq.q1 i hi] at hf
     obtain ⟨y,y1,y2⟩:=qa (p:=fun x=>decide (t x=(i:Int)) && !dS l t z H f0 m x) (n:=l) (by omega)
     simp only[Bool.and_eq_true,decide_eq_true_eq,Bool.not_eq_true'] at y2
     have:=xo h y1 y2.1
     rw[ih y y1 (by omega)] at y2
     exact absurd y2.2 (by decide)
end
end Go.Eng
end
section
namespace Go.Eng
open Go.Proofs
theorem QX (n s l k:Nat) (t d g z f:Nat→Int) (hs:List Int→Bool) (gs:List Int→Int) (c:Nat) (h T:Int) (G:aa):aJ (bn n 85 118) (il aE n 0) (bS aG 4 [] [] .bad) aH (part Try.f85 [1,1,1,1,1,1,1,0,0]) (hints (fZ 2 s l t k d g h++[(117,.bool false)])) (bW (s+1) l t k d g T z f hs gs c::G) =
 (fun (Z0:Row)=>((fun (Z1:aT)=>Tr.ite (bK (Int.ofNat 0) (Int.ofNat c)) (Tr.reqP ([(0,AV.yld 1 2),(1,AV.ptrT (some 1) (Row.G [AV.ptrT (some s) Z0 0]) 0),(2,AV.ptrT none (Row.I .i64 [h]) 0),(6,AV.ptr 0 2 0 0),(7,AV.ptr 0 3 0 0),(8,AV.map 0 4),(10,AV.fn (Fn.func 89) [] []),(11,AV.nils)]=[]∧Z1::G=[]) Tr.bad) (Tr.ok (Ex.exit 2,[(0,AV.yld 1 2,none),(1,AV.ptrT (some 1) (Row.G [AV.ptrT (some s) Z0 0]) 0,none),(2,AV.ptrT none (Row.I .i64 [h]) 0,none),(6,AV.ptr 0 2 0 0,none),(7,AV.ptr 0 3 0 0,none),(8,AV.map 0 4,none),(10,AV.fn (Fn.func 89) [] [],none),(56,AV.bool false,some 1)],Z1::G))) { lock:=false,bs:=[(0,ai.row (Row.G [AV.fn (Fn.func 74) [AV.ptrT (some (Nat.succ s)) Z0 0] []])),(0,ai.row (Row.I .i64 [T])),(0,ai.row (Row.M [ah.arr .i64 z 30])),(0,ai.row (Row.M [ah.arr .i64 f 30])),(0,ai.fmap (KK.str 2) hs gs c)] })) (Row.M [ah.one (AV.slcT none (Row.M [ah.arr .i64 t l]) 1 l false),ah.one (AV.slcT none (Row.M [ah.arr .i64 d k]) 1 k false),ah.arr .i64 g 30]):=by kernel_rfl
theorem Rr (n s l k:Nat) (t d g y z f2:Nat→Int) (hs hs2:List Int→Bool) (gs gs2:List Int→Int) (c c2:Nat) (h T:Int) (G G2:aa):aX Try.prog (cd n) 100000 85 Try.f85 (KtL.kt 85) (il (tX (gu (uG aE 72 [dy (s+1) l t k d g,.int .i64 h,.fn (.func 86) [] [.ptr 0 0 0 0]] (u9 (s+1) l t k d g::G) (.ok (.int .i64 T,u9 (s+1) l t k d g::G))) 74 (Pa (dy (s+1) l t k d g) k T y)) 53 [dy (s+1) l t k d g,b6 k y false] (.agg (.M [.arr .i64 z 30]))) n 0) (bS (bS aG 2 (fZ 2 s l t k d g h) (bW (s+1) l t k d g T (bG z) (bG g) hs gs c::G) (.ok (.normal,hints (fZ 2 s l t k d g h++[(56,.bool false)]),bW (s+1) l t k d g T (bG z) f2 hs2 gs2 c2::G2))) 0 (pb 2 s l t k d g h 0) (bW (s+1) l t k d g T (bG z) (bG g) (fun _=>false) (fun _=>0) 0::G) (.ok (.normal,hints (pb 2 s l t k d g h (Int.ofNat l)++[(41,.bool false)]),bW (s+1) l t k d g T (bG z) (bG g) hs gs c::G))) aH [(.yld 0 2,none),(.ptrT (some 0) (.G [dy s l t k d g]) 0,none),(.ptrT none (.I .i64 [h]) 0,none)] G =
 (fun (Z0:Row)=>((fun (Z1:Nat×ai)=>((fun (Z2:aT)=>((fun (Z3:aT)=>((fun (Z4:aq)=>((fun (Z5:aq)=>((fun (Z6:List AV)=>Tr.reqP (Z6=Z6∧{ lock:=false,bs:=[Z1] } :: G={ lock:=false,bs:=[Z1] } :: G) (Tr.reqP (AV.ptrT (some (Nat.succ s)) Z0 0=AV.ptrT (some (Nat.succ s)) Z0 0∧T=T) (Tr.reqP ([AV.ptrT (some (Nat.succ s)) Z0 0,AV.slcT none (Row.M [ah.arr .i64 y k]) 1 k false]=[AV.ptrT (some (Nat.succ s)) Z0 0,AV.slcT none (Row.M [ah.arr .i64 y k]) 1 k false]) (Tr.req (gq 0 30 0 30) (Tr.req (j6 (gM 0 0) (gM 0 1)) (Tr.req (gq 0 30 0 30) (Tr.reqP (Z4=Z4∧Z2::G=Z2::G) (Tr.reqP (Z5=Z5∧Z3::G=Z3::G) (Tr.ok ((AV.tup [],none),G2)))))))))) [AV.ptrT (some (Nat.succ s)) Z0 0,AV.int .i64 h,AV.fn (Fn.func 86) [] [AV.ptr 0 0 0 0]])) [(0,AV.yld 1 2),(1,AV.ptrT (some 1) (Row.G [AV.ptrT (some s) Z0 0]) 0),(2,AV.ptrT none (Row.I .i64 [h]) 0),(6,AV.ptr 0 2 0 0),(7,AV.ptr 0 3 0 0),(8,AV.map 0 4),(10,AV.fn (Fn.func 89) [] [])])) [(0,AV.yld 1 2),(1,AV.ptrT (some 1) (Row.G [AV.ptrT (some s) Z0 0]) 0),(2,AV.ptrT none (Row.I .i64 [h]) 0),(6,AV.ptr 0 2 0 0),(7,AV.ptr 0 3 0 0),(8,AV.map 0 4),(39,AV.int .i64 (Int.ofNat l)),(40,AV.int .i64 (Int.ofNat 0))])) { lock:=false,bs:=[Z1,(0,ai.row (Row.I .i64 [T])),(0,ai.row (Row.M [ah.arr .i64 (eG (fun x=>Int.ofNat 0) 0 z 30) 30])),(0,ai.row (Row.M [ah.arr .i64 (eG (fun x=>Int.ofNat 0) 0 g 30) 30])),(0,ai.fmap (KK.str 2) hs gs c)] })) { lock:=false,bs:=[Z1,(0,ai.row (Row.I .i64 [T])),(0,ai.row (Row.M [ah.arr .i64 (eG (fun x=>Int.ofNat 0) 0 z 30) 30])),(0,ai.row (Row.M [ah.arr .i64 (eG (fun x=>Int.ofNat 0) 0 g 30) 30])),(0,ai.fmap (KK.str 2) (fun x=>false) (fun x=>Int.ofNat 0) 0)] })) (0,ai.row (Row.G [AV.fn (Fn.func 74) [AV.ptrT (some (Nat.succ s)) Z0 0] []])))) (Row.M [ah.one (AV.slcT none (Row.M [ah.arr .i64 t l]) 1 l false),ah.one (AV.slcT none (Row.M [ah.arr .i64 d k]) 1 k false),ah.arr .i64 g 30]):=by kernel_rfl
noncomputable def Jl (s l:Nat) (t:Nat→Int) (k:Nat) (d g:Nat→Int) (h:Int):Nat→aq
 | 0=>fZ 2 s l t k d g h
 | m+1=>fZ 2 s l t k d g h++[(117,.bool false)]
noncomputable def CH (s l:Nat) (t:Nat→Int) (k:Nat) (d g:Nat→Int) (T:Int) (z:Nat→Int) (st:(Nat→Int)×(Nat→Bool)):aT:=bW s l t k d g T z st.1 (hW l z st.2) (gW l z st.2) (cn st.2 l)
section
variable (n s l k:Nat) (t d g z f0:Nat→Int) (h T:Int) (Gs:Nat→aa)
theorem P6 (H:Nat) (hh:h=(H:Nat)) (hH:0<H∧H≤1000) (hl:l≤30) (ht:∀ i,i<l→t i<l) (hz:∀ i,i<l→1≤z i) (M:Nat) (hM:M≤l) (h1:∀ m,m<M→0<cn (eQ l t z H f0 m).2 l) (h2:cn (eQ l t z H f0 M).2 l=0) (h3:∀ m,m≤M→∃ P,P+m≤l∧yl l P ((P:Int)-l) (eQ l t z H f0 m)) (hy:∀ m,m<M→∀ L:aT,L.lock=false→cd (n+2) (.round 1 2) [b6 (Lj l t z H f0 m).length (ay (Lj l t z H f0 m)) false] (L::Gs m)=some (.bool true,L::Gs (m+1))) :
 exec (bn (n+2) 85 118) (.block 2 (.loop (part Try.f85 [1,1,1,1,1,1,1,0,0]))) (fZ 2 s l t k d g h) (CH (s+1) l t k d g T z (eQ l t z H f0 0)::Gs 0)=some (.normal,fZ 2 s l t k d g h++[(56,.bool false)],CH (s+1) l t k d g T z (eQ l t z H f0 M)::Gs M):=by
 refine jf (n:=n+2) (f:=85) (nt:=118) (c:=part Try.f85 [1,1,1,1,1,1,1,0,0]) 2 (fun m=>Jl s l t k d g h m) (fun m=>CH (s+1) l t k d g T z (eQ l t z H f0 m)::Gs m) M _ (by omega) (fun m hm=>?_) ?_
 · obtain ⟨P,p1,p2⟩:=h3 m (by omega)
   obtain ⟨q,a1,a2,a3,a4,a5,a6,a7,a8,a9,_⟩:=G5 (z:=z) hl ht hH.1 (h1 m hm) p2
   have hy:=hy m hm
   unfold Lj at hy
   rw[a5,a6] at hy
   have hf:∀ j,j<q+1→∀ i,i<l→-900≤(cX t (ay (fp l z (eQ l t z H f0 m).2 (q+1))) ((eQ l t z H f0 m).1,(bx l z (eQ l t z H f0 m).2 (q+1)).2) j).1 i∧(cX t (ay (fp l z (eQ l t z H f0 m).2 (q+1))) ((eQ l t z H f0 m).1,(bx l z (eQ l t z H f0 m).2 (q+1)).2) j).1 i≤900:=fun j hj i hi=>by
    have:=(a9 j (by omega)).bd i hi
    omega
   have hv:∀ j,j<q+1→∀ i,i<l→(cX t (ay (fp l z (eQ l t z H f0 m).2 (q+1))) ((eQ l t z H f0 m).1,(bx l z (eQ l t z H f0 m).2 (q+1)).2) j).2 i=true→(cX t (ay (fp l z (eQ l t z H f0 m).2 (q+1))) ((eQ l t z H f0 m).1,(bx l z (eQ l t z H f0 m).2 (q+1)).2) j).1 i≤0:=fun j hj=>(a9 j (by omega)).off
   have hc:=h1 m hm
   show ∃ x,_=some x∧(_∧_=(_,CH (s+1) l t k d g T z (I2 l t z H (eQ l t z H f0 m))::_))
   rw[a7]
   generalize Gs m=A at *
   generalize Gs (m+1)=B at *
   cases m with
   | zero =>
     rcases a4 with a4 | ⟨a4,a4n⟩
     · exact No n s l k t d g z _ h T _ A B q _ (cT _) (by omega) (by omega) hc a3 hl a8 ht hz hf hv hy
     · exact Nq n s l k t d g z _ h T _ A B q _ (cT _) (by omega) (by omega) a4n hc a3 hl a8 ht hz hf hv hy
   | succ m =>
     rcases a4 with a4 | ⟨a4,a4n⟩
     · exact Np n s l k t d g z _ h T _ A B q _ (cT _) (by omega) (by omega) hc a3 hl a8 ht hz hf hv hy
     · exact Nr n s l k t d g z _ h T _ A B q _ (cT _) (by omega) (by omega) a4n hc a3 hl a8 ht hz hf hv hy
 · show exec _ _ (Jl s l t k d g h M) (bW (s+1) l t k d g T z _ _ _ (cn (eQ l t z H f0 M).2 l)::Gs M)=some (_,_,bW (s+1) l t k d g T z _ _ _ (cn (eQ l t z H f0 M).2 l)::Gs M)
   rw[h2]
   cases M with
   | zero=>exact cO (QW (n+2) 2 s l k t d g z _ _ _ 0 h T (Gs 0)) (ao _) (aA (af _ _) Dz (fun x hx=>(Tr.ae hx).elim)) (ag _ _) (by first | (simp (disch:=omega) only[nV,nW];done) | (simp (disch:=omega) only[nV,nW];omega))
   | succ M=>exact cO (QX (n+2) s l k t d g z _ _ _ 0 h T (Gs (M+1))) (ao _) (aA (af _ _) Dz (fun x hx=>(Tr.ae hx).elim)) (ag _ _) (by first | (simp (disch:=omega) only[nV,nW];done) | (simp (disch:=omega) only[nV,nW];omega))
end
end Go.Eng
end
section
namespace Go.Eng
open Go.Proofs
theorem OL:∀ b,(0,b) ∈ aI (bj Try.f85)→b=.loop (part Try.f85 [1,1,1,1,1,0,1,0,0]):=ep (by kernel_rfl)
theorem OM:∀ b,(2,b) ∈ aI (bj Try.f85)→b=.loop (part Try.f85 [1,1,1,1,1,1,1,0,0]):=ep (by kernel_rfl)
noncomputable def Oz (l:Nat) (t:Nat→Int) (k:Nat) (d:Nat→Int) (T:Int):Nat→Int:=bG (nD l t (ay (dM (fun i=>min (d i) T) k)) l)
noncomputable def zP (l:Nat) (t:Nat→Int) (k:Nat) (d:Nat→Int) (T:Int):Nat→Int:=bG (Oz l t k d T)
theorem AM {l k:Nat} {t d:Nat→Int} (hs:Sh l t k d) (T:Int) {i:Nat} (hi:i<l):zP l t k d T i=nZ l t (fun i=>min (d i) T) i:=by
 have:=hs.l30
 unfold zP Oz
 rw[wO (l:=l) (by omega),Bp hi]
 exact zl hs.fw (fun j hj=>by rw[hs.kl];exact nS _ hj) hi
section
variable (n s l k:Nat) (t d:Nat→Int) (h:Int) (Gs:Nat→aa)
theorem SG (hs:Sh l t k d) (H:Nat) (hh:h=(H:Nat)) (hH:0<H∧H≤1000) (hz:∀ i,i<l→1≤zP l t k d (dY l t d h:Nat) i) (M:Nat) (hM:M≤l) (h1:∀ m,m<M→0<cn (eQ l t (zP l t k d (dY l t d h:Nat)) H (bG (cQ t l)) m).2 l) (h2:cn (eQ l t (zP l t k d (dY l t d h:Nat)) H (bG (cQ t l)) M).2 l=0) (h3:∀ m,m≤M→∃ P,P+m≤l∧yl l P ((P:Int)-l) (eQ l t (zP l t k d (dY l t d h:Nat)) H (bG (cQ t l)) m))
 (hy:∀ m,m<M→∀ L:aT,L.lock=false→cd (n+5) (.round 1 2) [b6 (Lj l t (zP l t k d (dY l t d h:Nat)) H (bG (cQ t l)) m).length (ay (Lj l t (zP l t k d (dY l t d h:Nat)) H (bG (cQ t l)) m)) false] (L::Gs m)=some (.bool true,L::Gs (m+1))) :
 cd (n+6) (.fn 85) [.yld 0 2,.ptrT (some 0) (.G [dy s l t k d (cQ t l)]) 0,.ptrT none (.I .i64 [h]) 0] (Gs 0)=some (.tup [],Gs M):=by
 have hl1:=hs.l1
 have hl2:=hs.l30
 have hkl:=hs.kl
 have h72:cd (n+5) (.fn 72) [dy (s+1) l t k d (cQ t l),.int .i64 h,.fn (.func 86) [] [.ptr 0 0 0 0]] (u9 (s+1) l t k d (cQ t l)::Gs 0)=some (.int .i64 (dY l t d h:Nat),u9 (s+1) l t k d (cQ t l)::Gs 0):=by
  have:=OU n (s+1) l k 0 t d (cQ t l) (u9 (s+1) l t k d (cQ t l)::Gs 0) h (fun T=>ay (dM (fun i=>min (d i) (T:Nat)) k)) hs.l30 hs.kl hs.tl hs.cyc (fun T _ _=>EZ hs.kl (E0 hs.bd _ (by omega))) (by omega) (fun T _ _=>SH (n+1) (s+1) l k t d (cQ t l) (Gs 0) (T:Nat) (by omega) (by omega))
  rw[vV (q:=fun T=>bC l t (fun i=>min (d i) (T:Nat)) h) (fun T _ _=>Fg hs.fw hs.kl h)] at this
  exact this
 have hbd:Bd l (ay (dM (fun i=>min (d i) ((dY l t d h:Nat):Int)) k)):=EZ hs.kl (E0 hs.bd _ (by omega))
 generalize hT:((dY l t d h:Nat):Int)=T at hz h1 h2 h3 hy h72 hbd
 have hxa:=P5 (n+5) 2 s l k t d (cQ t l) (zP l t k d T) (bG (cQ t l)) h T (Gs 0) hl2
 have hxm:=P6 (n+3) s l k t d (cQ t l) (zP l t k d T) (bG (cQ t l)) h T Gs H hh hH hl2 hs.tl hz M hM h1 h2 h3 hy
 refine aD (n:=n+5) Try.func85 rfl rfl rfl (Rr (n+5) s l k t d (cQ t l) (ay (dM (fun i=>min (d i) T) k)) (Oz l t k d T) (eQ l t (zP l t k d T) H (bG (cQ t l)) M).1 (hW l (zP l t k d T) (w0 (bG (cQ t l)) l)) (hW l (zP l t k d T) (eQ l t (zP l t k d T) H (bG (cQ t l)) M).2) (gW l (zP l t k d T) (w0 (bG (cQ t l)) l)) (gW l (zP l t k d T) (eQ l t (zP l t k d T) H (bG (cQ t l)) M).2) (cn (w0 (bG (cQ t l)) l) l) (cn (eQ l t (zP l t k d T) H (bG (cQ t l)) M).2 l) h T (Gs 0) (Gs M)) (aO _ (n+5) (bp (Kv (n+3) (s+1) l k t d (cQ t l) (dQ (aF _) (fun x hx=>by rw[← Tr.ab hx];exact h72)) (by omega) (by omega)) (fun H=>OP (n+2) (s+1) l k k t d (cQ t l) (ay (dM (fun i=>min (d i) T) k)) false H hl2 hkl hs.tl hs.cyc hbd))) (aA (aA (af _ _) OM (fun x hx=>bN hx hxm)) OL (fun x hx=>bN hx hxa)) (ag _ _) ?_
 clear hxa hxm h72 hbd h1 h2 h3 hy hz
 generalize hW l (zP l t k d T) (w0 (bG (cQ t l)) l)=A1 at *
 generalize gW l (zP l t k d T) (w0 (bG (cQ t l)) l)=A2 at *
 generalize cn (w0 (bG (cQ t l)) l) l=A3 at *
 generalize Oz l t k d T=A4 at *
 generalize cQ t l=g at *
 generalize ay (dM (fun i=>min (d i) T) k)=Y at *
 exact wF
end
end Go.Eng
end
section
namespace Go.Eng
theorem tg (p:Nat→Bool):(jm p<40→p (jm p)=true)∧∀ M,1≤M→M<40→p M=true→jm p≤M:=by
 unfold jm
 cases c:bV (fun j=>p (j+1)) 39 with
 | true =>
   rw[if_pos rfl]
   have a:=je c
   obtain ⟨_,_,d,b⟩:=kZ (fun j=>p (j+1)) 39 0
   have b:=b (by omega)
   refine ⟨fun _=>b,fun M h1 h2 h3=>?_⟩
   apply Classical.byContradiction
   intro hc
   have:=d (M-1) (by omega) (by omega)
   rw[show M-1+1=M by omega,h3] at this
   cases this
 | false =>
   rw[if_neg (by decide)]
   refine ⟨fun h=>by omega,fun M h1 h2 h3=>?_⟩
   have:=dR c (M-1) (by omega)
   rw[show M-1+1=M by omega,h3] at this
   cases this
section
variable {l k H:Nat} {t d:Nat→Int} {h:Int}
theorem lQ (hs:Sh l t k d) (hc:bC l t d h=true):bC l t (fun i=>min (d i) (dY l t d h:Nat)) h=true∧1≤dY l t d h∧dY l t d h≤40:=by
 have hb:=r7 (fun T=>bC l t (fun i=>min (d i) (T:Nat)) h)
 refine ⟨?_,hb⟩
 by_cases c:dY l t d h<40
 · exact (tg (fun T=>bC l t (fun i=>min (d i) (T:Nat)) h)).1 c
 · have e:dY l t d h=40:=by have:dY l t d h≤40:=hb.2;omega
   rw[e,j8 hs.fw (e':=d) (fun j hj=>by have:=hs.d40 j hj;show min (d j) ((40:Nat):Int)=d j;omega)]
   exact hc
theorem oY (hs:Sh l t k d):∀ i,i<l→bG (cQ t l) i=(cn (fun x=>decide (t x=(i:Int))) l:Nat):=fun i hi=>by
 rw[mX _ _ (by have:=hs.l30;omega),Cw]
theorem Ha (hs:Sh l t k d) (hc:bC l t d h=true):∀ i,i<l→1≤zP l t k d (dY l t d h:Nat) i:=fun i hi=>by
 obtain ⟨a,b,c⟩:=lQ hs hc
 have:=(oN _ _ _ _).1 a 0 (by omega)
 rw[show h*((0:Nat):Int)=0 from Int.mul_zero h] at this
 have:=kV (p:=fun i=>decide (nZ l t (fun i=>min (d i) (dY l t d h:Nat)) i≤((0:Nat):Int))) (n:=l) (by have:(Fv l t (fun i=>min (d i) (dY l t d h:Nat)) ((0:Nat):Int):Int)≤0:=this;unfold Fv at this;omega) i hi
 rw[decide_eq_false_iff_not] at this
 rw[AM hs _ hi];omega
theorem I9 (hs:Sh l t k d) (i:Nat) (hi:i<l) (T:Nat):zP l t k d (T:Int) i≤d i∧zP l t k d (T:Int) i≤T:=by
 rw[AM hs _ hi]
 have:=F7 (e:=fun i=>min (d i) (T:Int)) hs.fw hi
 omega
theorem Cp (hs:Sh l t k d) (hc:bC l t d h=true) (hh:h=(H:Nat)):∀ i,i<l→dS l t (zP l t k d (dY l t d h:Nat)) H (bG (cQ t l)) (zP l t k d (dY l t d h:Nat) i).toNat i=true:=fun i hi=>by
 obtain ⟨a,b,c⟩:=lQ hs hc
 have hz:=Ha hs hc
 have hzi:=hz i hi
 refine Gr hs.l30 hs.tl (oY hs) hz (fun y x hy hx hyx=>?_) (fun L hL=>?_) _ i hi (by omega)
 · rw[AM hs _ hy,AM hs _ hx]
   exact H7 hs.fw hy hx hyx
 · obtain ⟨j,hj,hjL⟩:=hL
   have h40:=(I9 hs j hj (dY l t d h)).2
   have:=(oN _ _ _ _).1 a L (by omega)
   unfold Fv at this
   rw[eT (q:=fun i=>decide (zP l t k d (dY l t d h:Nat) i≤(L:Int))) (fun x hx=>by rw[AM hs _ hx]),show h*(L:Int)=((H*L:Nat):Int) by rw[hh,Int.natCast_mul]] at this
   exact Int.ofNat_le.1 this
theorem wD (hs:Sh l t k d) (hc:bC l t d h=true) (hh:h=(H:Nat)) {M:Nat} (hM:M≤l) (h1:∀ m,m<M→0<cn (eQ l t (zP l t k d (dY l t d h:Nat)) H (bG (cQ t l)) m).2 l) (h2:cn (eQ l t (zP l t k d (dY l t d h:Nat)) H (bG (cQ t l)) M).2 l=0):M=dY l t d h:=by
 obtain ⟨a,b,c⟩:=lQ hs hc
 have hl:=hs.l30
 have hl1:=hs.l1
 have hin:=Cp hs hc hh
 have hlaid:=fun i hi=>EO hl hs.fw (oY hs) h2 (l-eP l t i) i hi (Nat.le_refl _)
 have hle:M≤dY l t d h:=by
  apply Classical.byContradiction
  intro hn
  obtain ⟨i,hi,hw⟩:=qa (h1 (dY l t d h) (by omega))
  have hd:=((BI (z:=zP l t k d (dY l t d h:Nat)) (H:=H) hl hs.tl (oY hs) (dY l t d h)).q2 i hi).1 hw
  have:=(I9 hs i hi (dY l t d h)).2
  rw[h9 (show (zP l t k d (dY l t d h:Nat) i).toNat≤dY l t d h by omega) (hin i hi)] at hd
  cases hd.1
 have hM1:1≤M:=by
  apply Classical.byContradiction
  intro hn
  obtain rfl:M=0:=by omega
  have:=hlaid 0 (by omega)
  cases this
 have hge:dY l t d h≤M:=by
  refine (tg (fun T=>bC l t (fun i=>min (d i) (T:Nat)) h)).2 M hM1 (by omega) ?_
  refine (oN _ _ _ _).2 (fun T hT=>?_)
  have h3:Fv l t (fun i=>min (d i) (M:Nat)) (T:Nat)≤cn (dS l t (zP l t k d (dY l t d h:Nat)) H (bG (cQ t l)) T) l:=kU (fun i hi hp=>by
   rw[decide_eq_true_eq] at hp
   obtain ⟨q,q1,q2⟩:=KJ (e:=fun i=>min (d i) (M:Nat)) hs.fw hi
   obtain ⟨s1,_⟩:=lx hs.fw hi q q1
   have s2:=fz hs.tl (show (i:Int)<l by omega) q
   have hcl:(bE t q (i:Int)).toNat<l:=by omega
   have hd1:=hs.d1 _ hcl
   have hK:dS l t (zP l t k d (dY l t d h:Nat)) H (bG (cQ t l)) (min (d (bE t q (i:Int)).toNat) (M:Nat)).toNat (bE t q (i:Int)).toNat=true:=by
    by_cases e:(M:Int)≤d (bE t q (i:Int)).toNat
    · exact h9 (by omega) (hlaid _ hcl)
    · have:=(I9 hs _ hcl (dY l t d h)).1
      exact h9 (by omega) (hin _ hcl)
   obtain ⟨e1,e2⟩:=CA hl hs.fw (oY hs) hi q _ q1 hK
   exact h9 (by omega) e2)
  have h4:=Jh (z:=zP l t k d (dY l t d h:Nat)) (H:=H) hl hs.tl (oY hs) T
  rw[show h*(T:Int)=((H*T:Nat):Int) by rw[hh,Int.natCast_mul]]
  exact Int.ofNat_le.2 (Nat.le_trans h3 h4)
 omega
end
end Go.Eng
end
section
namespace Go.Eng
open Go.Proofs
noncomputable def sf (l k:Nat) (t d:Nat→Int) (h:Int) (m:Nat):List Int:=Lj l t (zP l t k d (dY l t d h:Nat)) h.toNat (bG (cQ t l)) m
section
variable (n s l k:Nat) (t d:Nat→Int) (h:Int) (Gs:Nat→aa)
theorem OY (hs:Sh l t k d) (hc:bC l t d h=true) (hh:1≤h∧h≤10) (hy:∀ m,m<dY l t d h→∀ L:aT,L.lock=false→cd (n+5) (.round 1 2) [b6 (sf l k t d h m).length (ay (sf l k t d h m)) false] (L::Gs m)=some (.bool true,L::Gs (m+1))) :
 cd (n+6) (.fn 85) [.yld 0 2,.ptrT (some 0) (.G [dy s l t k d (cQ t l)]) 0,.ptrT none (.I .i64 [h]) 0] (Gs 0)=some (.tup [],Gs (dY l t d h)):=by
 have e:h=(h.toNat:Int):=by omega
 obtain ⟨M,a,b,c,f⟩:=GV (H:=h.toNat) (z:=zP l t k d (dY l t d h:Nat)) (f0:=bG (cQ t l)) hs.l30 hs.tl (by omega) (fun i hi=>by
  rw[oY hs i hi]
  have:=oO (fun x=>decide (t x=(i:Int))) l
  have:=hs.l30
  omega)
 have hM:=wD hs hc e a b c
 subst hM
 exact SG n s l k t d h Gs hs h.toNat e (by omega) (Ha hs hc) _ a b c f hy
end
end Go.Eng
end
section
namespace Go.Eng
open Go.Proofs
noncomputable def xm (l:Nat) (t:Nat→Int) (k:Nat) (d:Nat→Int) (L:ij):aT:=⟨false,[(0,.row (.G [b6 l t false,b6 k d false])),(0,.row (.G [.nils])),(0,.loop L)]⟩
noncomputable def jH (l:Nat) (t:Nat→Int) (k:Nat) (d:Nat→Int) (L:ij) (v m:Nat) (f:Nat→Nat→Int) (g:Nat→Nat):aT:=⟨false,[(0,.row (.G [b6 l t false,b6 k d false])),(0,.row (.G [.slc 0 3 v 0 1 m none])),(0,.loop L),(v,.row (.F (fun j=>b6 (g j) (f j) false) m))]⟩
end Go.Eng
end
section
namespace Go.Eng
open Go.Proofs
def RZ (x l:Int):List AV→Option (Prop×AV)
 | [.int .u64 y]=>some (y=x,.int .i64 l)
 | _=>none
noncomputable def fT (p:Int) (mk z:Nat→Int) (s:AV) (v m:Nat):aT:=⟨false,[(v,.row (.M [.arr .i64 z m]))]⟩
noncomputable def w9 (v m:Nat) (i:Int):aq:=[(0,.slc 3 0 v 0 1 m (some m)),(1,.int .i64 0),(2,.int .i64 (Int.ofNat m)),(6,.int .i64 i)]
noncomputable def pc (v m:Nat) (i j:Int):aq:=[(0,.slc 3 0 v 0 1 m (some m)),(1,.int .i64 0),(2,.int .i64 (Int.ofNat m)),(6,.int .i64 i),(7,.int .i64 j)]
theorem Vb (n:Nat) (H:aa) (p:Int) (mk z z2:Nat→Int) (s:AV) (v m:Nat) (lim:Int):aX Try.prog (cd (n+4)) 100000 63 Try.f63 (KtL.kt 63) (il (wQ (uG aE 91 [.slc 1 0 v 0 1 m (some m),.int .i64 0,.int .i64 (Int.ofNat m),.int .i64 lim] (av::fT p mk z s v m::H) (.ok (.tup [],av::fT p mk z2 s v m::H))) 92 (RZ (Int.ofNat m) lim)) (n+4) 0) aG aH [(.slc 0 0 v 0 1 m (some m),none)] (fT p mk z s v m::H) =
 (fun (Z0:List AV)=>Tr.reqP (nn IntKind.u64 (Int.ofNat m)=Int.ofNat m) (Tr.reqP (Z0=Z0∧av::{ lock:=false,bs:=[(v,ai.row (Row.M [ah.arr .i64 z m]))] } :: H=av::{ lock:=false,bs:=[(v,ai.row (Row.M [ah.arr .i64 z m]))] } :: H) (Tr.ok ((AV.tup [],none),{ lock:=false,bs:=[(v,ai.row (Row.M [ah.arr .i64 z2 m]))] } :: H)))) [AV.slc 1 0 v 0 1 m (some m),AV.int .i64 (Int.ofNat 0),AV.int .i64 (Int.ofNat m),AV.int .i64 lim]:=by kernel_rfl
theorem Vo (n:Nat) (H:aa) (p:Int) (mk z z2:Nat→Int) (s:AV) (v m:Nat) (lim:Int):aX Try.prog (cd (n+3)) 100000 91 Try.f91 (KtL.kt 91) (il (uG aE 96 [.slc 2 0 v 0 1 m (some m),.int .i64 0,.int .i64 (Int.ofNat m)] (av::av::fT p mk z s v m::H) (.ok (.tup [],av::av::fT p mk z2 s v m::H))) (n+3) 0) aG aH [(.slc 1 0 v 0 1 m (some m),none),(.int .i64 0,none),(.int .i64 (Int.ofNat m),none),(.int .i64 lim,none)] (av::fT p mk z s v m::H) =
 Tr.ite (lV (br .i64 (Int.ofNat m) (Int.ofNat 0)) (Int.ofNat 12)) (Tr.reqP ([AV.slc 2 0 v 0 1 m (some m),AV.int .i64 (Int.ofNat 0),AV.int .i64 (Int.ofNat m)]=[AV.slc 2 0 v 0 1 m (some m),AV.int .i64 (Int.ofNat 0),AV.int .i64 (Int.ofNat m)]∧av::av::{ lock:=false,bs:=[(v,ai.row (Row.M [ah.arr .i64 z m]))] } :: H=av::av::{ lock:=false,bs:=[(v,ai.row (Row.M [ah.arr .i64 z m]))] } :: H) (Tr.ok ((AV.tup [],none),av::{ lock:=false,bs:=[(v,ai.row (Row.M [ah.arr .i64 z2 m]))] } :: H))) (Tr.ite (b7 lim (Int.ofNat 0)) Tr.bad Tr.bad):=by kernel_rfl
theorem Vs (n:Nat) (H:aa) (p:Int) (mk z z2:Nat→Int) (s:AV) (v m:Nat) (i2:Int):aX Try.prog (cd (n+2)) 100000 96 Try.f96 (KtL.kt 96) (il aE n 2) (bS aG 0 (w9 v m (bA .i64 0 1)) (av::av::av::fT p mk z s v m::H) (.ok (.normal,hints (w9 v m i2++[(12,.bool false)]),av::av::av::fT p mk z2 s v m::H))) aH [(.slc 2 0 v 0 1 m (some m),none),(.int .i64 0,none),(.int .i64 (Int.ofNat m),none)] (av::av::fT p mk z s v m::H) =
 (fun (Z0:aq)=>Tr.reqP (Z0=Z0∧av::av::av::{ lock:=false,bs:=[(v,ai.row (Row.M [ah.arr .i64 z m]))] } :: H=av::av::av::{ lock:=false,bs:=[(v,ai.row (Row.M [ah.arr .i64 z m]))] } :: H) (Tr.ok ((AV.tup [],none),av::av::{ lock:=false,bs:=[(v,ai.row (Row.M [ah.arr .i64 z2 m]))] } :: H))) [(0,AV.slc 3 0 v 0 1 m (some m)),(1,AV.int .i64 (Int.ofNat 0)),(2,AV.int .i64 (Int.ofNat m)),(6,AV.int .i64 (bA .i64 (Int.ofNat 0) (Int.ofNat 1)))]:=by kernel_rfl
theorem QZ (n:Nat) (H:aa) (p:Int) (mk z z2:Nat→Int) (s:AV) (v m:Nat) (i j2:Int):aJ (bn (n+2) 96 49) (il aE n 2) (bS aG 2 (pc v m i i) (av::av::av::fT p mk z s v m::H) (.ok (.normal,hints (pc v m i j2++[(30,.bool false)]),av::av::av::fT p mk z2 s v m::H))) aH (part Try.f96 [1,0,0]) (hints (w9 v m i)) (av::av::av::fT p mk z s v m::H) =
 (fun (Z0:aq)=>((fun (Z1:aT)=>Tr.ite (bK i (Int.ofNat m)) (Tr.reqP (Z0=Z0∧av::av::av::Z1::H=av::av::av::Z1::H) (Tr.ok (Ex.normal,[(0,AV.slc 3 0 v 0 1 m (some m),none),(1,AV.int .i64 (Int.ofNat 0),none),(2,AV.int .i64 (Int.ofNat m),none),(6,AV.int .i64 (bA .i64 i (Int.ofNat 1)),none)],av::av::av::{ lock:=false,bs:=[(v,ai.row (Row.M [ah.arr .i64 z2 m]))] } :: H))) (Tr.ok (Ex.exit 0,[(0,AV.slc 3 0 v 0 1 m (some m),none),(1,AV.int .i64 (Int.ofNat 0),none),(2,AV.int .i64 (Int.ofNat m),none),(6,AV.int .i64 i,none),(12,AV.bool false,some 1)],av::av::av::Z1::H))) { lock:=false,bs:=[(v,ai.row (Row.M [ah.arr .i64 z m]))] })) [(0,AV.slc 3 0 v 0 1 m (some m)),(1,AV.int .i64 (Int.ofNat 0)),(2,AV.int .i64 (Int.ofNat m)),(6,AV.int .i64 i),(7,AV.int .i64 i)]:=by kernel_rfl
theorem QY (n:Nat) (H:aa) (p:Int) (mk z:Nat→Int) (s:AV) (v m:Nat) (i:Int):aJ (bn (n+2) 96 49) (il aE n 2) (nK aG 2) aH (part Try.f96 [1,0,0]) (hints (w9 v m i)) (av::av::av::fT p mk z s v m::H) =
 Tr.ite (bK i (Int.ofNat m)) Tr.bad (Tr.ok (Ex.exit 0,[(0,AV.slc 3 0 v 0 1 m (some m),none),(1,AV.int .i64 (Int.ofNat 0),none),(2,AV.int .i64 (Int.ofNat m),none),(6,AV.int .i64 i,none),(12,AV.bool false,some 1)],av::av::av::{ lock:=false,bs:=[(v,ai.row (Row.M [ah.arr .i64 z m]))] } :: H)):=by kernel_rfl
theorem Lu (n:Nat) (H:aa) (p:Int) (mk z:Nat→Int) (s:AV) (v m:Nat) (i j:Int):aJ (bn (n+2) 96 49) (il aE n 2) aG aH (part Try.f96 [1,0,0,1,0,0,1,0,0]) (hints (pc v m i j)) (av::av::av::fT p mk z s v m::H) =
 (fun (Z0:aN)=>((fun (Z1:aN)=>((fun (Z2:aT)=>((fun (Z3:aT)=>Tr.ite (bK (Int.ofNat 0) j) (Tr.req (cE j m) (Tr.req (b9 v v) (Tr.req (cr (au 0 j 1) m) (Tr.req (cE (br .i64 j (Int.ofNat 1)) m) (Tr.req (b9 v v) (Tr.req (cr (au 0 (br .i64 j (Int.ofNat 1)) 1) m) (Tr.ite (aP (b7 (z (au 0 j 1)) (z (au 0 j 1)))) (Tr.ite (aP (aP (b7 (z (au 0 (br .i64 j (Int.ofNat 1)) 1)) (z (au 0 (br .i64 j (Int.ofNat 1)) 1))))) (Tr.req (cE (br .i64 j (Int.ofNat 1)) m) (Tr.req (b9 v v) (Tr.req (cr (au 0 (br .i64 j (Int.ofNat 1)) 1) m) (Tr.req (cE j m) (Tr.req (b9 v v) (Tr.req (cr (au 0 j 1) m) (Tr.req (cE j m) (Tr.req (b9 v v) (Tr.req (cr (au 0 j 1) m) (Tr.req (j6 (gM v v) (gM v (Nat.succ v))) (Tr.req (cE (br .i64 j (Int.ofNat 1)) m) (Tr.req (b9 v v) (Tr.req (cr (au 0 (br .i64 j (Int.ofNat 1)) 1) m) (Tr.req (j6 (gM v v) (gM v (Nat.succ v))) (Tr.ok (Ex.normal,Z1,av::av::av::Z2::H)))))))))))))))) (Tr.ite (bK (z (au 0 j 1)) (z (au 0 (br .i64 j (Int.ofNat 1)) 1))) (Tr.req (cE (br .i64 j (Int.ofNat 1)) m) (Tr.req (b9 v v) (Tr.req (cr (au 0 (br .i64 j (Int.ofNat 1)) 1) m) (Tr.req (cE j m) (Tr.req (b9 v v) (Tr.req (cr (au 0 j 1) m) (Tr.req (cE j m) (Tr.req (b9 v v) (Tr.req (cr (au 0 j 1) m) (Tr.req (j6 (gM v v) (gM v (Nat.succ v))) (Tr.req (cE (br .i64 j (Int.ofNat 1)) m) (Tr.req (b9 v v) (Tr.req (cr (au 0 (br .i64 j (Int.ofNat 1)) 1) m) (Tr.req (j6 (gM v v) (gM v (Nat.succ v))) (Tr.ok (Ex.normal,Z1,av::av::av::Z2::H)))))))))))))))) (Tr.ok (Ex.exit 2,Z0,av::av::av::Z3::H)))) (Tr.ite (bK (z (au 0 j 1)) (z (au 0 (br .i64 j (Int.ofNat 1)) 1))) (Tr.req (cE (br .i64 j (Int.ofNat 1)) m) (Tr.req (b9 v v) (Tr.req (cr (au 0 (br .i64 j (Int.ofNat 1)) 1) m) (Tr.req (cE j m) (Tr.req (b9 v v) (Tr.req (cr (au 0 j 1) m) (Tr.req (cE j m) (Tr.req (b9 v v) (Tr.req (cr (au 0 j 1) m) (Tr.req (j6 (gM v v) (gM v (Nat.succ v))) (Tr.req (cE (br .i64 j (Int.ofNat 1)) m) (Tr.req (b9 v v) (Tr.req (cr (au 0 (br .i64 j (Int.ofNat 1)) 1) m) (Tr.req (j6 (gM v v) (gM v (Nat.succ v))) (Tr.ok (Ex.normal,Z1,av::av::av::Z2::H)))))))))))))))) (Tr.ok (Ex.exit 2,Z0,av::av::av::Z3::H)))))))))) (Tr.ok (Ex.exit 2,Z0,av::av::av::Z3::H))) { lock:=false,bs:=[(v,ai.row (Row.M [ah.arr .i64 z m]))] })) { lock:=false,bs:=[(v,ai.row (Row.M [ah.arr .i64 (fX (fX z (au 0 j 1) (z (au 0 (br .i64 j (Int.ofNat 1)) 1))) (au 0 (br .i64 j (Int.ofNat 1)) 1) (z (au 0 j 1))) m]))] })) [(0,AV.slc 3 0 v 0 1 m (some m),none),(1,AV.int .i64 (Int.ofNat 0),none),(2,AV.int .i64 (Int.ofNat m),none),(6,AV.int .i64 i,none),(7,AV.int .i64 (br .i64 j (Int.ofNat 1)),none)])) [(0,AV.slc 3 0 v 0 1 m (some m),none),(1,AV.int .i64 (Int.ofNat 0),none),(2,AV.int .i64 (Int.ofNat m),none),(6,AV.int .i64 i,none),(7,AV.int .i64 j,none),(30,AV.bool false,some 1)]:=by kernel_rfl
noncomputable def C8 (z:Nat→Int) (j:Nat):Nat→Int:=fX (fX z j (z (j-1))) (j-1) (z j)
noncomputable def lZ (z:Nat→Int):Nat→Nat→Int
 | 0=>z
 | j+1=>if z (j+1)<z j then lZ (C8 z (j+1)) j else z
noncomputable def iJ (z:Nat→Int):Nat→Nat→Int
 | 0=>z
 | k+1=>lZ (iJ z k) (k+1)
section
variable (n:Nat) (H:aa) (p:Int) (mk z:Nat→Int) (s:AV) (v m:Nat)
theorem Si:∀ b,(0,b) ∈ aI (bj Try.f96)→b=.loop (part Try.f96 [1,0,0]):=ep (by kernel_rfl)
theorem ON:∀ b,(2,b) ∈ aI (part Try.f96 [1,0,0])→b=.loop (part Try.f96 [1,0,0,1,0,0,1,0,0]):=ep (by kernel_rfl)
theorem P7 (i:Nat) (hi:i<m) (hm:m≤100):∃ y:aq×aa,exec (bn (n+2) 96 49) (.block 2 (.loop (part Try.f96 [1,0,0,1,0,0,1,0,0]))) (pc v m i i) (av::av::av::fT p mk z s v m::H)=some (.normal,y)∧∃ j2:Int,y=(pc v m i j2++[(30,.bool false)],av::av::av::fT p mk (lZ z i) s v m::H):=by
 refine Gb (n:=n+2) (f:=96) (nt:=49) (c:=part Try.f96 [1,0,0,1,0,0,1,0,0]) 2 (fun k fr G=>∃ (z':Nat→Int) (j:Nat),j+k=i∧fr=pc v m i j∧G=av::av::av::fT p mk z' s v m::H∧lZ z' j=lZ z i) _ (i+1) (by omega) ⟨z,i,by omega,rfl,rfl,rfl⟩ (fun k fr G hI=>?_)
 obtain ⟨z',j,h1,rfl,rfl,h2⟩:=hI
 rw[← h2]
 cases j with
 | zero =>
   obtain ⟨x,hx1,hx2⟩:=aB (Q:=fun x=>x=(.exit 2,pc v m i ((0:Nat):Int)++[(30,.bool false)],av::av::av::fT p mk z' s v m::H)) (Lu n H p mk z' s v m (i:Int) ((0:Nat):Int)) (ku n 2) (af _ _) (ag _ _) (by
    exact wF)
   exact ⟨x,hx1,.inr (by rw[hx2];exact ⟨rfl,_,rfl⟩)⟩
 | succ j =>
   have es:br .i64 ((j+1:Nat):Int) (Int.ofNat 1)=(j:Int):=by rw[nh,show Int.ofNat 1=1 from rfl,rM (by omega) (by omega)];omega
   have ed:au 0 ((j+1:Nat):Int) 1=j+1:=by rw[ln];omega
   have ee:au 0 (j:Int) 1=j:=by rw[ln];omega
   have eu:fX (fX z' (j+1) (z' j)) j (z' (j+1))=C8 z' (j+1):=rfl
   by_cases hlt:z' (j+1)<z' j
   · obtain ⟨x,hx1,hx2⟩:=aB (Q:=fun x=>x.1=.normal∧tidy 0 x.2.1 x.2.2=(pc v m i (j:Int),av::av::av::fT p mk (C8 z' (j+1)) s v m::H)) (Lu n H p mk z' s v m (i:Int) ((j+1:Nat):Int)) (ku n 2) (af _ _) (ag _ _) (by
      rw[es,ed,ee,eu]
      exact wF)
     refine ⟨x,hx1,.inl ⟨hx2.1,by omega,C8 z' (j+1),j,by omega,?_,?_,?_⟩⟩
     · have:=congrArg Prod.fst hx2.2
       exact this
     · have:=congrArg Prod.snd hx2.2
       exact this
     · show _=(if z' (j+1)<z' j then lZ (C8 z' (j+1)) j else z')
       rw[if_pos hlt]
   · obtain ⟨x,hx1,hx2⟩:=aB (Q:=fun x=>x=(.exit 2,pc v m i ((j+1:Nat):Int)++[(30,.bool false)],av::av::av::fT p mk z' s v m::H)) (Lu n H p mk z' s v m (i:Int) ((j+1:Nat):Int)) (ku n 2) (af _ _) (ag _ _) (by
      rw[es,ed,ee,eu]
      exact wF)
     refine ⟨x,hx1,.inr ?_⟩
     rw[hx2]
     refine ⟨rfl,((j+1:Nat):Int),?_⟩
     rw[show lZ z' (j+1)=(if z' (j+1)<z' j then lZ (C8 z' (j+1)) j else z') from rfl,if_neg hlt]
theorem Uy (h1:1≤m) (hm:m≤100):exec (bn (n+2) 96 49) (.block 0 (.loop (part Try.f96 [1,0,0]))) (w9 v m ((1:Nat):Int)) (av::av::av::fT p mk z s v m::H)=some (.normal,w9 v m ((m:Nat):Int)++[(12,.bool false)],av::av::av::fT p mk (iJ z (m-1)) s v m::H):=by
 have:=jf (n:=n+2) (f:=96) (nt:=49) (c:=part Try.f96 [1,0,0]) 0 (fun k=>w9 v m ((k+1:Nat):Int)) (fun k=>av::av::av::fT p mk (iJ z k) s v m::H) (m-1) (w9 v m ((m:Nat):Int)++[(12,.bool false)],av::av::av::fT p mk (iJ z (m-1)) s v m::H) (by omega) (fun k hk=>?_) ?_
 · exact this
 · obtain ⟨y,hy,j2,rfl⟩:=P7 n H p mk (iJ z k) s v m (k+1) (by omega) hm
   have ej:bA .i64 ((k+1:Nat):Int) (Int.ofNat 1)=((k+1+1:Nat):Int):=by rw[jB,show Int.ofNat 1=1 from rfl];exact rM (by omega) (by omega)
   refine aB (QZ n H p mk (iJ z k) (iJ z (k+1)) s v m ((k+1:Nat):Int) j2) (ku n 2) (aA (af _ _) ON (fun x hx=>by rw[← Tr.ab hx];simp only[oE.st,iy];exact hy)) (ag _ _) ?_
   rw[ej]
   exact wF
 · have e:((m-1+1:Nat):Int)=(m:Int):=by omega
   rw[e]
   obtain ⟨x,h1,rfl⟩:=aB (Q:=fun x=>x=(.exit 0,w9 v m ((m:Nat):Int)++[(12,.bool false)],av::av::av::fT p mk (iJ z (m-1)) s v m::H)) (QY n H p mk (iJ z (m-1)) s v m (m:Int)) (ku n 2) (fc (af _ _) 2) (ag _ _) (by
    exact wF)
   exact h1
theorem SQ (h1:1≤m) (hm:m≤100):cd (n+3) (.fn 96) [.slc 2 0 v 0 1 m (some m),.int .i64 0,.int .i64 (Int.ofNat m)] (av::av::fT p mk z s v m::H)=some (.tup [],av::av::fT p mk (iJ z (m-1)) s v m::H):=by
 have l:=Uy n H p mk z s v m h1 hm
 have e1:bA .i64 0 1=((1:Nat):Int):=by rw[jB];rfl
 refine aD (n:=n+2) Try.func96 rfl rfl rfl (Vs n H p mk z (iJ z (m-1)) s v m ((m:Nat):Int)) (ku n 2) (aA (af _ _) Si (fun x hx=>by rw[← Tr.ab hx,e1];simp only[oE.st,iy];exact l)) (ag _ _) ?_
 exact wF
theorem SM (h1:1≤m) (hm:m≤12) (lim:Int):cd (n+4) (.fn 91) [.slc 1 0 v 0 1 m (some m),.int .i64 0,.int .i64 (Int.ofNat m),.int .i64 lim] (av::fT p mk z s v m::H)=some (.tup [],av::fT p mk (iJ z (m-1)) s v m::H):=by
 refine aD (n:=n+3) Try.func91 rfl rfl rfl (Vo n H p mk z (iJ z (m-1)) s v m lim) (za _ (n+3) 0 (fun k=>dQ (aF _) (fun x hx=>?_))) (af _ _) (ag _ _) ?_
 · rw[← Tr.ab hx,show n+3+k=n+k+3 by omega]
   exact SQ (n+k) H p mk z s v m h1 (by omega)
 · exact wF
def pq (x:Nat):Int:=if x<2 then 1 else if x<4 then 2 else if x<8 then 3 else 4
theorem L9 (n:Nat) (H:aa):cd (n+3) (.fn 92) [.int .u64 (Int.ofNat 1)] H=some (.int .i64 (pq 1),H):=by kernel_rfl
theorem Ma (n:Nat) (H:aa):cd (n+3) (.fn 92) [.int .u64 (Int.ofNat 2)] H=some (.int .i64 (pq 2),H):=by kernel_rfl
theorem Mb (n:Nat) (H:aa):cd (n+3) (.fn 92) [.int .u64 (Int.ofNat 3)] H=some (.int .i64 (pq 3),H):=by kernel_rfl
theorem Mc (n:Nat) (H:aa):cd (n+3) (.fn 92) [.int .u64 (Int.ofNat 4)] H=some (.int .i64 (pq 4),H):=by kernel_rfl
theorem Md (n:Nat) (H:aa):cd (n+3) (.fn 92) [.int .u64 (Int.ofNat 5)] H=some (.int .i64 (pq 5),H):=by kernel_rfl
theorem Me (n:Nat) (H:aa):cd (n+3) (.fn 92) [.int .u64 (Int.ofNat 6)] H=some (.int .i64 (pq 6),H):=by kernel_rfl
theorem Mf (n:Nat) (H:aa):cd (n+3) (.fn 92) [.int .u64 (Int.ofNat 7)] H=some (.int .i64 (pq 7),H):=by kernel_rfl
theorem Mg (n:Nat) (H:aa):cd (n+3) (.fn 92) [.int .u64 (Int.ofNat 8)] H=some (.int .i64 (pq 8),H):=by kernel_rfl
theorem Mh (n:Nat) (H:aa):cd (n+3) (.fn 92) [.int .u64 (Int.ofNat 9)] H=some (.int .i64 (pq 9),H):=by kernel_rfl
theorem Kf (n:Nat) (H:aa):cd (n+3) (.fn 92) [.int .u64 (Int.ofNat 10)] H=some (.int .i64 (pq 10),H):=by kernel_rfl
theorem Kg (n:Nat) (H:aa):cd (n+3) (.fn 92) [.int .u64 (Int.ofNat 11)] H=some (.int .i64 (pq 11),H):=by kernel_rfl
theorem Kh (n:Nat) (H:aa):cd (n+3) (.fn 92) [.int .u64 (Int.ofNat 12)] H=some (.int .i64 (pq 12),H):=by kernel_rfl
theorem SN (x:Nat) (hx:1≤x∧x≤12) (n:Nat) (H:aa):cd (n+3) (.fn 92) [.int .u64 (Int.ofNat x)] H=some (.int .i64 (pq x),H):=by
 have:x=1∨x=2∨x=3∨x=4∨x=5∨x=6∨x=7∨x=8∨x=9∨x=10∨x=11∨x=12:=by omega
 rcases this with rfl | rfl | rfl | rfl | rfl | rfl | rfl | rfl | rfl | rfl | rfl | rfl
 · exact L9 n H
 · exact Ma n H
 · exact Mb n H
 · exact Mc n H
 · exact Md n H
 · exact Me n H
 · exact Mf n H
 · exact Mg n H
 · exact Mh n H
 · exact Kf n H
 · exact Kg n H
 · exact Kh n H
theorem Sz (h1:1≤m) (hm:m≤12):cd (n+5) (.fn 63) [.slc 0 0 v 0 1 m (some m)] (fT p mk z s v m::H)=some (.tup [],fT p mk (iJ z (m-1)) s v m::H):=by
 have ew:nn .u64 (Int.ofNat m)=Int.ofNat m:=by
  rw[BQ]
  simp only[IntKind.wrap,IntKind.signed,IntKind.bits]
  simp
  omega
 refine aD (n:=n+4) Try.func63 rfl rfl rfl (Vb n H p mk z (iJ z (m-1)) s v m (pq m)) (za _ (n+4) 0 (fun k=>mf (dQ (aF _) (fun x hx=>?_)) (fun args p' v' hg hp H=>?_))) (af _ _) (ag _ _) ?_
 · rw[← Tr.ab hx,show n+4+k=n+k+4 by omega]
   exact SM (n+k) H p mk z s v m h1 hm _
 · unfold RZ at hg
   split at hg
   · simp only[nP] at hg
     obtain ⟨rfl,rfl⟩:=hg
     subst hp
     rw[show n+4+k=n+1+k+3 by omega]
     exact SN m ⟨h1,hm⟩ _ H
   · cases hg
 · rw[ew]
   refine Tr.ba rfl (Tr.ba ⟨rfl,rfl⟩ (Tr.bf ⟨rfl,rfl⟩))
end
end Go.Eng
end
