/- Lay: plan: no cell is laid late. -/
import Derived.Test.YtoomemfhcbajoaaV8Lb28x4
set_option linter.unusedVariables false
set_option linter.unusedSimpArgs false
set_option maxRecDepth 100000
section
namespace Go.Eng
theorem ui {p q:Nat→Bool} {n i:Nat} (h:∀ j,j<n→p j=true→q j=true) (hi:i<n) (h1:p i=false) (h2:q i=true):cn p n+1≤cn q n:=by
 have e:=g8 (p:=p) (q:=ja p i) (i:=i) (n:=n) h1 (by unfold ja;rw[if_pos rfl]) (fun j _ hj=>by unfold ja;rw[if_neg hj]) hi
 rw[← e]
 refine ij (fun j hj hp=>?_)
 unfold ja at hp
 by_cases c:j=i
 · rw[c];exact h2
 · rw[if_neg c] at hp;exact h j hj hp
theorem D1 {l:Nat} {t:Nat→Int} {p q:Nat→Bool} (h:∀ c,c<l→p c=true→∃ y,y<l∧q y=true∧t y=(c:Int)):∀ n,n≤l→cn p n≤cn (fun y=>q y && decide (t y<(n:Int))) l
 | 0,_=>Nat.zero_le _
 | n + 1,hn=>by
   have ih:=D1 h n (by omega)
   have hm:cn (fun y=>q y && decide (t y<(n:Int))) l≤cn (fun y=>q y && decide (t y<((n+1:Nat):Int))) l:=ij (fun j hj hp=>by
    simp only[Bool.and_eq_true,decide_eq_true_eq] at hp ⊢
    exact ⟨hp.1,by omega⟩)
   show cn p n+(p n).toNat≤_
   cases hp:p n with
   | false=>show cn p n+0≤_;omega
   | true =>
     obtain ⟨y,y1,y2,y3⟩:=h n (by omega) hp
     have:=ui (p:=fun y=>q y && decide (t y<(n:Int))) (q:=fun y=>q y && decide (t y<((n+1:Nat):Int))) (n:=l) (i:=y) (fun j hj hp=>by
      simp only[Bool.and_eq_true,decide_eq_true_eq] at hp ⊢
      exact ⟨hp.1,by omega⟩) y1 (by rw[y2,decide_eq_false (by omega)];rfl) (by rw[y2,decide_eq_true (by omega)];rfl)
     show cn p n+1≤_
     omega
theorem vA {l:Nat}:∀ {L:List Nat},L.Nodup→(∀ i ∈ L,i<l)→cn (fun i=>decide (i ∈ L)) l=L.length
 | [],_,_=>kr (fun j _=>by simp)
 | a::L,hn,hL=>by
   have hn2:=List.nodup_cons.1 hn
   have ih:=vA hn2.2 (fun i hi=>hL i (List.mem_cons_of_mem _ hi))
   rw[g8 (p:=fun i=>decide (i ∈ L)) (q:=fun i=>decide (i ∈ a::L)) (i:=a) (decide_eq_false hn2.1) (by simp) (fun j _ hj=>by simp[hj]) (hL a (by simp)),ih]
   rfl
section
variable {l H:Nat} {t z f0:Nat→Int}
noncomputable def qK (l:Nat) (t z:Nat→Int) (H:Nat) (f0:Nat→Int) (m:Nat):List Nat:=(bo l z (ev l t z H f0 m).2 H).1
theorem rk {w:Nat→Bool} (x:Nat):∀ r,(bo l z w r).2 x=true↔w x=true∧x ∉ (bo l z w r).1
 | 0=>by show w x=true↔w x=true∧x ∉ [];simp
 | r + 1=>by
   have ih:=rk (w:=w) x r
   cases hm:kd z (bo l z w r).2 l with
   | none=>rw[oS hm];exact ih
   | some i =>
     rw[fi hm]
     dsimp only
     unfold mR
     by_cases c:x=i
     · rw[if_pos c];simp[c]
     · rw[if_neg c,ih];simp[c]
theorem oT {w:Nat→Bool}:∀ r,∀ i ∈ (bo l z w r).1,w i=true
 | 0,i,hi=>by cases hi
 | r + 1,i,hi=>by
   cases hm:kd z (bo l z w r).2 l with
   | none=>rw[oS hm] at hi;exact oT r i hi
   | some k =>
     rw[fi hm] at hi
     rcases List.mem_append.1 hi with hi | hi
     · exact oT r i hi
     · rw[List.mem_singleton.1 hi]
       exact ((rk k r).1 (mz hm).2).1
theorem Ff {w:Nat→Bool} {x:Nat} (hx:x<l) (hw:w x=true):∀ r,x ∉ (bo l z w r).1→∀ i ∈ (bo l z w r).1,z i≤z x
 | 0,_,i,hi=>by cases hi
 | r + 1,hn,i,hi=>by
   cases hm:kd z (bo l z w r).2 l with
   | none=>rw[oS hm] at hi hn;exact Ff hx hw r hn i hi
   | some k =>
     rw[fi hm] at hi hn
     dsimp only at hi hn
     have hn1:x ∉ (bo l z w r).1:=fun h=>hn (List.mem_append.2 (.inl h))
     rcases List.mem_append.1 hi with hi | hi
     · exact Ff hx hw r hn1 i hi
     · rw[List.mem_singleton.1 hi]
       have:=jW z (bo l z w r).2 l
       rw[hm] at this
       rcases this.2.2 x hx ((rk x r).2 ⟨hw,hn1⟩) with h | h
       · omega
       · omega
theorem G7 {w:Nat→Bool} {x:Nat} (hx:x<l) (hw:w x=true) (hn:x ∉ (bo l z w H).1):(bo l z w H).1.length=H:=by
 obtain ⟨r,h1,h2,h3,h4⟩:=lX (l:=l) (z:=z) (w:=w) H
 rcases h4 with rfl | h4
 · have:=sG r h2
   unfold eV at this
   rw[List.length_map] at this
   exact this
 · have hs:=jW z (bo l z w r).2 l
   rw[h4] at hs
   rw[h3] at hn
   have:=hs x hx
   rw[(rk x r).2 ⟨hw,hn⟩] at this
   cases this
theorem gH {i:Nat} {m q:Nat} (h:m≤q) (hd:dS l t z H f0 m i=true):dS l t z H f0 q i=true:=by
 induction h with
 | refl=>exact hd
 | step _ ih=>show (dS l t z H f0 _ i || _)=true;rw[ih];rfl
theorem EY (hl:l≤30) (ht:∀ i,i<l→t i<l) (h0:∀ i,i<l→f0 i=(cn (fun x=>decide (t x=(i:Int))) l:Nat)) (hz:∀ i,i<l→1≤z i) (hzt:∀ y i:Nat,y<l→i<l→t y=(i:Int)→z y≤z i-1)
 (hcr:∀ L:Nat,(∃ i,i<l∧z i=L)→cn (fun i=>decide (z i≤L)) l≤H*L):∀ (L:Nat) (x:Nat),x<l→z x=L→dS l t z H f0 L x=true:=by
 intro L
 induction L using Nat.strongRecOn with
 | ind L ihL =>
   intro x hx hzx
   cases hlate:dS l t z H f0 L x with
   | true=>rfl
   | false =>
     exfalso
     have hL1:1≤L:=by have:=hz x hx;omega
     have hq:=fun m=>Ay (z:=z) (H:=H) (f0:=f0) hl ht h0 m
     have hrow:∀ m,(qK l t z H f0 m).Nodup∧∀ i ∈ qK l t z H f0 m,i<l∧dS l t z H f0 m i=false:=fun m=>by
      obtain ⟨r,h1,h2,h3,h4⟩:=lX (l:=l) (z:=z) (w:=(ev l t z H f0 m).2) H
      obtain ⟨_,a2,a3⟩:=yE (hq m) r h2
      unfold qK
      rw[h3]
      exact ⟨a2,a3⟩
     -- a turn with fewer takes all that wait
     have htake:∀ m,cn (fun i=>decide (i ∈ qK l t z H f0 m) && decide (z i≤L)) l<H→∀ c,c<l→z c≤L→(ev l t z H f0 m).2 c=true→c ∈ qK l t z H f0 m:=by
      intro m hm c hc hzc hw
      apply Classical.byContradiction
      intro hn
      have hf:=G7 (z:=z) (H:=H) hc hw hn
      have hle:=Ff (z:=z) hc hw H hn
      have e:cn (fun i=>decide (i ∈ qK l t z H f0 m) && decide (z i≤L)) l=cn (fun i=>decide (i ∈ qK l t z H f0 m)) l:=dq (fun j hj=>by
       by_cases k:j ∈ qK l t z H f0 m
       · have:=hle j k
         rw[decide_eq_true k,decide_eq_true (by omega)];rfl
       · rw[decide_eq_false k];rfl)
      rw[e,vA (hrow m).1 (fun i hi=>((hrow m).2 i hi).1)] at hm
      unfold qK at hm
      omega
     have hwait:∀ m c,c<l→dS l t z H f0 m c=false→(ev l t z H f0 m).2 c≠true→∃ y,y<l∧t y=(c:Int)∧dS l t z H f0 m y=false:=by
      intro m c hc hd hw
      have h1:(ev l t z H f0 m).1 c≠0:=fun h=>hw (((hq m).q2 c hc).2 ⟨hd,h⟩)
      rw[(hq m).q1 c hc] at h1
      obtain ⟨y,y1,y2⟩:=po (p:=fun x=>decide (t x=(c:Int)) && !dS l t z H f0 m x) (n:=l) (by omega)
      simp only[Bool.and_eq_true,decide_eq_true_eq,Bool.not_eq_true'] at y2
      exact ⟨y,y1,y2.1,y2.2⟩
     -- the last turn is full
     have hlast:H≤cn (fun i=>decide (i ∈ qK l t z H f0 (L-1)) && decide (z i≤L)) l:=by
      apply Classical.byContradiction
      intro hc
      have hdx:dS l t z H f0 (L-1) x=false:=by
       cases hd:dS l t z H f0 (L-1) x with
       | false=>rfl
       | true=>rw[gH (show L-1≤L by omega) hd] at hlate;cases hlate
      have hnw:(ev l t z H f0 (L-1)).2 x≠true:=by
       intro hw
       have hin:=htake (L-1) (by omega) x hx (by omega) hw
       have:dS l t z H f0 (L-1+1) x=true:=by
        show (dS l t z H f0 (L-1) x || decide (x ∈ qK l t z H f0 (L-1)))=true
        rw[decide_eq_true hin,Bool.or_true]
       rw[show L-1+1=L by omega,hlate] at this
       cases this
      obtain ⟨y,y1,y2,y3⟩:=hwait (L-1) x hx hdx hnw
      have hzy:=hzt y x y1 hx y2
      have hzy1:=hz y y1
      have:=ihL (z y).toNat (by omega) y y1 (by omega)
      rw[gH (show (z y).toNat≤L-1 by omega) this] at y3
      cases y3
     -- and so are those before
     have hall:∀ k,k<L→H≤cn (fun i=>decide (i ∈ qK l t z H f0 (L-1-k)) && decide (z i≤L)) l:=by
      intro k
      induction k with
      | zero=>intro _;exact hlast
      | succ k ih =>
        intro hk
        have ih:=ih (by omega)
        obtain ⟨r,hr⟩:∃ r,L-1-k=r+1:=⟨L-1-k-1,by omega⟩
        rw[hr] at ih
        rw[show L-1-(k+1)=r by omega]
        apply Classical.byContradiction
        intro hc
        have hin:=D1 (l:=l) (t:=t) (p:=fun i=>decide (i ∈ qK l t z H f0 (r+1)) && decide (z i≤L)) (q:=fun i=>decide (i ∈ qK l t z H f0 r) && decide (z i≤L)) (fun c hc' hp=>by
         simp only[Bool.and_eq_true,decide_eq_true_eq] at hp
         obtain ⟨hp1,hp2⟩:=hp
         have hd1:=((hrow (r+1)).2 c hp1).2
         have hd0:dS l t z H f0 r c=false:=by
          cases hd:dS l t z H f0 r c with
          | false=>rfl
          | true=>rw[gH (show r≤r+1 by omega) hd] at hd1;cases hd1
         have hnw:(ev l t z H f0 r).2 c≠true:=by
          intro hw
          have hin:=htake r (by omega) c hc' hp2 hw
          have:dS l t z H f0 (r+1) c=true:=by
           show (dS l t z H f0 r c || decide (c ∈ qK l t z H f0 r))=true
           rw[decide_eq_true hin,Bool.or_true]
          rw[hd1] at this;cases this
         obtain ⟨y,y1,y2,y3⟩:=hwait r c hc' hd0 hnw
         have hw1:=oT H c hp1
         have hf1:=(((hq (r+1)).q2 c hc').1 hw1).2
         rw[(hq (r+1)).q1 c hc'] at hf1
         have hz1:=mg (p:=fun x=>decide (t x=(c:Int)) && !dS l t z H f0 (r+1) x) (n:=l) (by omega) y y1
         rw[decide_eq_true y2,Bool.true_and,Bool.not_eq_false'] at hz1
         have hz1:(dS l t z H f0 r y || decide (y ∈ qK l t z H f0 r))=true:=hz1
         rw[y3,Bool.false_or] at hz1
         have hzy:=hzt y c y1 hc' y2
         exact ⟨y,y1,by rw[hz1,decide_eq_true (by omega)];rfl,y2⟩) l (Nat.le_refl _)
        have hle:cn (fun y=>(decide (y ∈ qK l t z H f0 r) && decide (z y≤L)) && decide (t y<(l:Int))) l≤cn (fun i=>decide (i ∈ qK l t z H f0 r) && decide (z i≤L)) l:=ij (fun j hj hp=>by
         simp only[Bool.and_eq_true] at hp ⊢;exact hp.1)
        omega
     -- so there are too many
     have hsum : ∀ m,m≤L→H*m≤cn (fun i=>dS l t z H f0 m i && decide (z i≤L)) l:=by
      intro m
      induction m with
      | zero=>intro _;omega
      | succ m ih =>
        intro hm
        have ih:=ih (by omega)
        have ha:=hall (L-1-m) (by omega)
        rw[show L-1-(L-1-m)=m by omega] at ha
        have hadd:cn (fun i=>dS l t z H f0 (m+1) i && decide (z i≤L)) l=cn (fun i=>dS l t z H f0 m i && decide (z i≤L)) l+cn (fun i=>decide (i ∈ qK l t z H f0 m) && decide (z i≤L)) l:=by
         have key:∀ n,cn (fun i=>dS l t z H f0 (m+1) i && decide (z i≤L)) n=cn (fun i=>dS l t z H f0 m i && decide (z i≤L)) n+cn (fun i=>decide (i ∈ qK l t z H f0 m) && decide (z i≤L)) n:=by
          intro n
          induction n with
          | zero=>rfl
          | succ n ihn =>
            show cn _ n+(((dS l t z H f0 m n || decide (n ∈ qK l t z H f0 m)) && decide (z n≤L))).toNat=(cn _ n+(dS l t z H f0 m n && decide (z n≤L)).toNat)+(cn _ n+(decide (n ∈ qK l t z H f0 m) && decide (z n≤L)).toNat)
            rw[ihn]
            cases hd:dS l t z H f0 m n with
            | false=>simp;omega
            | true =>
              have hni:¬ n ∈ qK l t z H f0 m:=fun h=>by
               have:=((hrow m).2 n h).2
               rw[hd] at this;cases this
              rw[decide_eq_false hni]
              simp;omega
         exact key l
        rw[hadd,Nat.mul_succ]
        omega
     have h1:=hsum L (Nat.le_refl _)
     have h2:=ui (p:=fun i=>dS l t z H f0 L i && decide (z i≤L)) (q:=fun i=>decide (z i≤L)) (n:=l) (i:=x) (fun j hj hp=>by
      simp only[Bool.and_eq_true] at hp;exact hp.2) hx (by rw[hlate];rfl) (decide_eq_true (by omega))
     have h3:=hcr L ⟨x,hx,hzx⟩
     omega
end
end Go.Eng
end
section
namespace Go.Eng
theorem HX {t e:Nat→Int} {i:Nat} {v:Int}:∀ m,v≤C4 t e i m↔v≤e i∧∀ q,q<m→v≤e (bO t q (i:Int)).toNat-(q:Int)
 | 0=>by
   show v≤e i↔_
   exact ⟨fun h=>⟨h,fun q hq=>by omega⟩,fun h=>h.1⟩
 | m + 1=>by
   show v≤min (C4 t e i m) (e (bO t m (i:Int)).toNat-(m:Int))↔_
   have ih:=HX (t:=t) (e:=e) (i:=i) (v:=v) m
   constructor
   · intro h
     obtain ⟨a,b⟩:=ih.1 (by omega)
     refine ⟨a,fun q hq=>?_⟩
     by_cases c:q=m
     · subst c;omega
     · exact b q (by omega)
   · intro h
     have a:=ih.2 ⟨h.1,fun q hq=>h.2 q (by omega)⟩
     have b:=h.2 m (by omega)
     omega
theorem uG {l:Nat} {t e:Nat→Int} {i:Nat} {v:Int} (h:Fw l t) (hi:i<l):v≤nQ l t e i↔∀ q,q<pc l t i→v≤e (bO t q (i:Int)).toNat-(q:Int):=by
 unfold nQ
 rw[HX]
 refine ⟨fun h=>h.2,fun hq=>⟨?_,hq⟩⟩
 have:=hq 0 (by have:=v8 h hi;omega)
 have e0:bO t 0 (i:Int)=(i:Int):=rfl
 rw[e0,Int.toNat_natCast] at this
 omega
theorem sY {t:Nat→Int} {y x:Nat} (hy:t y=(x:Int)):∀ q,bO t (q+1) (y:Int)=bO t q (x:Int)
 | 0=>by
   show (if _ then _ else _)=(x:Int)
   have e0:bO t 0 (y:Int)=(y:Int):=rfl
   simp[e0,hy]
 | q+1=>by
   have ih:=sY hy q
   show (if _ then _ else _)=(if _ then _ else _)
   rw[ih]
theorem v7 {l:Nat} {t:Nat→Int} {y x:Nat} (h:Fw l t) (hy:y<l) (hx:t y=(x:Int)):pc l t y=pc l t x+1:=by
 obtain ⟨a1,a2,a3⟩:=pq h.cyc y hy
 have hp:=v8 h hy
 have e1:bO t 1 (y:Int)=(x:Int):=sY hx 0
 have hne:pc l t y≠1:=fun c=>by
  rw[c,e1] at a3;omega
 have:=(np h hy 1 (by omega)).2
 rw[e1,Int.toNat_natCast] at this
 omega
theorem GA {l:Nat} {t e:Nat→Int} {y x:Nat} (h:Fw l t) (hy:y<l) (hx:x<l) (hyx:t y=(x:Int)):nQ l t e y≤nQ l t e x-1:=by
 have hl:=v7 h hy hyx
 have:=(uG (e:=e) (v:=nQ l t e y) h hy).1 (Int.le_refl _)
 have h2:nQ l t e y+1≤nQ l t e x:=(uG h hx).2 (fun q hq=>by
  have:=this (q+1) (by omega)
  rw[sY hyx] at this
  omega)
 omega
theorem KV {l:Nat} {t e:Nat→Int} {i:Nat} (h:Fw l t) (hi:i<l):nQ l t e i≤e i:=by
 have:=(uG (e:=e) (v:=nQ l t e i) h hi).1 (Int.le_refl _) 0 (by have:=v8 h hi;omega)
 have e0:bO t 0 (i:Int)=(i:Int):=rfl
 rw[e0,Int.toNat_natCast] at this
 omega
theorem Jd {l:Nat} {t e:Nat→Int} {i:Nat} (h:Fw l t) (hi:i<l):∃ q,q<pc l t i∧nQ l t e i=e (bO t q (i:Int)).toNat-(q:Int):=by
 apply Classical.byContradiction
 intro hno
 have h1:=(uG (e:=e) (v:=nQ l t e i) h hi).1 (Int.le_refl _)
 have:nQ l t e i+1≤nQ l t e i:=(uG h hi).2 (fun q hq=>by
  have a:=h1 q hq
  have b:nQ l t e i≠e (bO t q (i:Int)).toNat-(q:Int):=fun c=>hno ⟨q,hq,c⟩
  omega)
 omega
section
variable {l H:Nat} {t z f0:Nat→Int}
theorem Nw (hl:l≤30) (ht:∀ i,i<l→t i<l) (h0:∀ i,i<l→f0 i=(cn (fun x=>decide (t x=(i:Int))) l:Nat)) {y x:Nat} (hy:y<l) (hx:x<l) (hyx:t y=(x:Int)):∀ m,dS l t z H f0 m x=true→0<m∧dS l t z H f0 (m-1) y=true
 | 0,h=>by cases h
 | m + 1,h=>by
   refine ⟨by omega,?_⟩
   show dS l t z H f0 m y=true
   have h:(dS l t z H f0 m x || decide (x ∈ qK l t z H f0 m))=true:=h
   cases hd:dS l t z H f0 m x with
   | true =>
     obtain ⟨a,b⟩:=Nw hl ht h0 hy hx hyx m hd
     exact gH (by omega) b
   | false =>
     rw[hd,Bool.false_or,decide_eq_true_eq] at h
     have hq:=Ay (z:=z) (H:=H) hl ht h0 m
     have hf:=((hq.q2 x hx).1 (oT H x h)).2
     rw[hq.q1 x hx] at hf
     have:=mg (p:=fun a=>decide (t a=(x:Int)) && !dS l t z H f0 m a) (n:=l) (by omega) y hy
     rw[decide_eq_true hyx,Bool.true_and,Bool.not_eq_false'] at this
     exact this
theorem By (hl:l≤30) (h:Fw l t) (h0:∀ i,i<l→f0 i=(cn (fun x=>decide (t x=(i:Int))) l:Nat)) {i:Nat} (hi:i<l):∀ q m,q<pc l t i→dS l t z H f0 m (bO t q (i:Int)).toNat=true→q<m∧dS l t z H f0 (m-q) i=true
 | 0,m,_,hd=>by
   have e0:bO t 0 (i:Int)=(i:Int):=rfl
   rw[e0,Int.toNat_natCast] at hd
   refine ⟨?_,hd⟩
   cases m with
   | zero=>cases hd
   | succ m=>omega
 | q + 1,m,hq,hd=>by
   obtain ⟨a1,_⟩:=np h hi (q+1) hq
   obtain ⟨b1,_⟩:=np h hi q (by omega)
   have hb:(bO t q (i:Int)).toNat<l:=by
    have:=ia h.tl (show (i:Int)<l by omega) q
    omega
   have ha:(bO t (q+1) (i:Int)).toNat<l:=by
    have:=ia h.tl (show (i:Int)<l by omega) (q+1)
    omega
   have hs:t (bO t q (i:Int)).toNat=((bO t (q+1) (i:Int)).toNat:Int):=by
    have:bO t (q+1) (i:Int)=t (bO t q (i:Int)).toNat:=by
     show (if _ then _ else _)=_
     simp;omega
    rw[← this];omega
   obtain ⟨c1,c2⟩:=Nw hl h.tl h0 hb ha hs m hd
   obtain ⟨d1,d2⟩:=By hl h h0 hi q (m-1) (by omega) c2
   refine ⟨by omega,?_⟩
   rw[show m-(q+1)=m-1-q by omega];exact d2
theorem JB {w:Nat→Bool}:(bo l z w H).1.length≤H:=by
 obtain ⟨r,h1,h2,h3,h4⟩:=lX (l:=l) (z:=z) (w:=w) H
 have:=sG r h2
 unfold eV at this
 rw[List.length_map] at this
 rw[h3];omega
theorem HJ (hl:l≤30) (ht:∀ i,i<l→t i<l) (h0:∀ i,i<l→f0 i=(cn (fun x=>decide (t x=(i:Int))) l:Nat)):∀ m,cn (dS l t z H f0 m) l≤H*m
 | 0=>by
   have:cn (dS l t z H f0 0) l=0:=kr (fun j _=>rfl)
   rw[this];exact Nat.zero_le _
 | m + 1=>by
   have ih:=HJ hl ht h0 m
   obtain ⟨r,h1,h2,h3,h4⟩:=lX (l:=l) (z:=z) (w:=(ev l t z H f0 m).2) H
   obtain ⟨_,a2,a3⟩:=yE (Ay (z:=z) (H:=H) hl ht h0 m) r h2
   rw[← h3] at a2 a3
   have hc:=vA a2 (fun i hi=>(a3 i hi).1)
   have hm:=JB (l:=l) (H:=H) (z:=z) (w:=(ev l t z H f0 m).2)
   have key:∀ n,cn (dS l t z H f0 (m+1)) n≤cn (dS l t z H f0 m) n+cn (fun i=>decide (i ∈ (bo l z (ev l t z H f0 m).2 H).1)) n:=by
    intro n
    induction n with
    | zero=>exact Nat.le_refl _
    | succ n ihn =>
      show cn _ n+(dS l t z H f0 m n || decide (n ∈ (bo l z (ev l t z H f0 m).2 H).1)).toNat≤(cn _ n+(dS l t z H f0 m n).toNat)+(cn _ n+(decide (n ∈ (bo l z (ev l t z H f0 m).2 H).1)).toNat)
      have:(dS l t z H f0 m n || decide (n ∈ (bo l z (ev l t z H f0 m).2 H).1)).toNat≤(dS l t z H f0 m n).toNat+(decide (n ∈ (bo l z (ev l t z H f0 m).2 H).1)).toNat:=by
       cases dS l t z H f0 m n<;>cases decide (n ∈ (bo l z (ev l t z H f0 m).2 H).1)<;>decide
      omega
   have:=key l
   rw[Nat.mul_succ]
   omega
theorem DH (hl:l≤30) (h:Fw l t) (h0:∀ i,i<l→f0 i=(cn (fun x=>decide (t x=(i:Int))) l:Nat)) {m:Nat} (hw:cn (ev l t z H f0 m).2 l=0):∀ k i,i<l→l-pc l t i≤k→dS l t z H f0 m i=true:=by
 have hq:=Ay (z:=z) (H:=H) hl h.tl h0 m
 intro k
 induction k with
 | zero =>
   intro i hi hk
   cases hd:dS l t z H f0 m i with
   | true=>rfl
   | false =>
     have hw1:=mg hw i hi
     have hf:(ev l t z H f0 m).1 i≠0:=fun c=>by rw[(hq.q2 i hi).2 ⟨hd,c⟩] at hw1;cases hw1
     rw[hq.q1 i hi] at hf
     obtain ⟨y,y1,y2⟩:=po (p:=fun x=>decide (t x=(i:Int)) && !dS l t z H f0 m x) (n:=l) (by omega)
     simp only[Bool.and_eq_true,decide_eq_true_eq] at y2
     have:=v7 h y1 y2.1
     have:=v8 h y1
     omega
 | succ k ih =>
   intro i hi hk
   cases hd:dS l t z H f0 m i with
   | true=>rfl
   | false =>
     have hw1:=mg hw i hi
     have hf:(ev l t z H f0 m).1 i≠0:=fun c=>by rw[(hq.q2 i hi).2 ⟨hd,c⟩] at hw1;cases hw1
     rw[hq.q1 i hi] at hf
     obtain ⟨y,y1,y2⟩:=po (p:=fun x=>decide (t x=(i:Int)) && !dS l t z H f0 m x) (n:=l) (by omega)
     simp only[Bool.and_eq_true,decide_eq_true_eq,Bool.not_eq_true'] at y2
     have:=v7 h y1 y2.1
     rw[ih y y1 (by omega)] at y2
     exact absurd y2.2 (by decide)
end
end Go.Eng
end
section
namespace Go.Eng
open Go.Proofs
theorem N9 (n s l k:Nat) (t d g z f:Nat→Int) (hs:List Int→Bool) (gs:List Int→Int) (c:Nat) (h T:Int) (G:aa):aN (bA n 85 118) (il aQ n 0) (dp aT 4 [] [] .bad) aU (part Try.f85 [1,1,1,1,1,1,1,0,0]) (hints (fD 2 s l t k d g h++[(117,.bool false)])) (bM (s+1) l t k d g T z f hs gs c::G) =
 (fun (Z0:Row)=>((fun (Z1:aV)=>Tr.ite (cF (Int.ofNat 0) (Int.ofNat c)) (Tr.reqP ([(0,AV.yld 1 2),(1,AV.ptrT (some 1) (Row.G [AV.ptrT (some s) Z0 0]) 0),(2,AV.ptrT none (Row.I .i64 [h]) 0),(6,AV.ptr 0 2 0 0),(7,AV.ptr 0 3 0 0),(8,AV.map 0 4),(10,AV.fn (Fn.func 89) [] []),(11,AV.nils)]=[]∧Z1::G=[]) Tr.bad) (Tr.ok (Ex.exit 2,[(0,AV.yld 1 2,none),(1,AV.ptrT (some 1) (Row.G [AV.ptrT (some s) Z0 0]) 0,none),(2,AV.ptrT none (Row.I .i64 [h]) 0,none),(6,AV.ptr 0 2 0 0,none),(7,AV.ptr 0 3 0 0,none),(8,AV.map 0 4,none),(10,AV.fn (Fn.func 89) [] [],none),(56,AV.bool false,some 1)],Z1::G))) { lock:=false,bs:=[(0,ak.row (Row.G [AV.fn (Fn.func 74) [AV.ptrT (some (Nat.succ s)) Z0 0] []])),(0,ak.row (Row.I .i64 [T])),(0,ak.row (Row.M [ah.arr .i64 z 30])),(0,ak.row (Row.M [ah.arr .i64 f 30])),(0,ak.fmap (KK.str 2) hs gs c)] })) (Row.M [ah.one (AV.slcT none (Row.M [ah.arr .i64 t l]) 1 l false),ah.one (AV.slcT none (Row.M [ah.arr .i64 d k]) 1 k false),ah.arr .i64 g 30]):=by kernel_rfl
theorem Oq (n s l k:Nat) (t d g y z f2:Nat→Int) (hs hs2:List Int→Bool) (gs gs2:List Int→Int) (c c2:Nat) (h T:Int) (G G2:aa):bz Try.prog (cd n) 100000 85 Try.f85 (KtL.kt 85) (il (tX (jb (A5 aQ 72 [dK (s+1) l t k d g,.int .i64 h,.fn (.func 86) [] [.ptr 0 0 0 0]] (tI (s+1) l t k d g::G) (.ok (.int .i64 T,tI (s+1) l t k d g::G))) 74 (MD (dK (s+1) l t k d g) k T y)) 53 [dK (s+1) l t k d g,dc k y false] (.agg (.M [.arr .i64 z 30]))) n 0) (dp (dp aT 2 (fD 2 s l t k d g h) (bM (s+1) l t k d g T (bD z) (bD g) hs gs c::G) (.ok (.normal,hints (fD 2 s l t k d g h++[(56,.bool false)]),bM (s+1) l t k d g T (bD z) f2 hs2 gs2 c2::G2))) 0 (ou 2 s l t k d g h 0) (bM (s+1) l t k d g T (bD z) (bD g) (fun _=>false) (fun _=>0) 0::G) (.ok (.normal,hints (ou 2 s l t k d g h (Int.ofNat l)++[(41,.bool false)]),bM (s+1) l t k d g T (bD z) (bD g) hs gs c::G))) aU [(.yld 0 2,none),(.ptrT (some 0) (.G [dK s l t k d g]) 0,none),(.ptrT none (.I .i64 [h]) 0,none)] G =
 (fun (Z0:Row)=>((fun (Z1:Nat×ak)=>((fun (Z2:aV)=>((fun (Z3:aV)=>((fun (Z4:aq)=>((fun (Z5:aq)=>((fun (Z6:List AV)=>Tr.reqP (Z6=Z6∧{ lock:=false,bs:=[Z1] } :: G={ lock:=false,bs:=[Z1] } :: G) (Tr.reqP (AV.ptrT (some (Nat.succ s)) Z0 0=AV.ptrT (some (Nat.succ s)) Z0 0∧T=T) (Tr.reqP ([AV.ptrT (some (Nat.succ s)) Z0 0,AV.slcT none (Row.M [ah.arr .i64 y k]) 1 k false]=[AV.ptrT (some (Nat.succ s)) Z0 0,AV.slcT none (Row.M [ah.arr .i64 y k]) 1 k false]) (Tr.req (kH 0 30 0 30) (Tr.req (jI (jz 0 0) (jz 0 1)) (Tr.req (kH 0 30 0 30) (Tr.reqP (Z4=Z4∧Z2::G=Z2::G) (Tr.reqP (Z5=Z5∧Z3::G=Z3::G) (Tr.ok ((AV.tup [],none),G2)))))))))) [AV.ptrT (some (Nat.succ s)) Z0 0,AV.int .i64 h,AV.fn (Fn.func 86) [] [AV.ptr 0 0 0 0]])) [(0,AV.yld 1 2),(1,AV.ptrT (some 1) (Row.G [AV.ptrT (some s) Z0 0]) 0),(2,AV.ptrT none (Row.I .i64 [h]) 0),(6,AV.ptr 0 2 0 0),(7,AV.ptr 0 3 0 0),(8,AV.map 0 4),(10,AV.fn (Fn.func 89) [] [])])) [(0,AV.yld 1 2),(1,AV.ptrT (some 1) (Row.G [AV.ptrT (some s) Z0 0]) 0),(2,AV.ptrT none (Row.I .i64 [h]) 0),(6,AV.ptr 0 2 0 0),(7,AV.ptr 0 3 0 0),(8,AV.map 0 4),(39,AV.int .i64 (Int.ofNat l)),(40,AV.int .i64 (Int.ofNat 0))])) { lock:=false,bs:=[Z1,(0,ak.row (Row.I .i64 [T])),(0,ak.row (Row.M [ah.arr .i64 (ik (fun x=>Int.ofNat 0) 0 z 30) 30])),(0,ak.row (Row.M [ah.arr .i64 (ik (fun x=>Int.ofNat 0) 0 g 30) 30])),(0,ak.fmap (KK.str 2) hs gs c)] })) { lock:=false,bs:=[Z1,(0,ak.row (Row.I .i64 [T])),(0,ak.row (Row.M [ah.arr .i64 (ik (fun x=>Int.ofNat 0) 0 z 30) 30])),(0,ak.row (Row.M [ah.arr .i64 (ik (fun x=>Int.ofNat 0) 0 g 30) 30])),(0,ak.fmap (KK.str 2) (fun x=>false) (fun x=>Int.ofNat 0) 0)] })) (0,ak.row (Row.G [AV.fn (Fn.func 74) [AV.ptrT (some (Nat.succ s)) Z0 0] []])))) (Row.M [ah.one (AV.slcT none (Row.M [ah.arr .i64 t l]) 1 l false),ah.one (AV.slcT none (Row.M [ah.arr .i64 d k]) 1 k false),ah.arr .i64 g 30]):=by kernel_rfl
noncomputable def HM (s l:Nat) (t:Nat→Int) (k:Nat) (d g:Nat→Int) (h:Int):Nat→aq
 | 0=>fD 2 s l t k d g h
 | m+1=>fD 2 s l t k d g h++[(117,.bool false)]
noncomputable def BE (s l:Nat) (t:Nat→Int) (k:Nat) (d g:Nat→Int) (T:Int) (z:Nat→Int) (st:(Nat→Int)×(Nat→Bool)):aV:=bM s l t k d g T z st.1 (hW l z st.2) (gW l z st.2) (cn st.2 l)
section
variable (n s l k:Nat) (t d g z f0:Nat→Int) (h T:Int) (Gs:Nat→aa)
theorem Nt (H:Nat) (hh:h=(H:Nat)) (hH:0<H∧H≤1000) (hl:l≤30) (ht:∀ i,i<l→t i<l) (hz:∀ i,i<l→1≤z i) (M:Nat) (hM:M≤l) (h1:∀ m,m<M→0<cn (ev l t z H f0 m).2 l) (h2:cn (ev l t z H f0 M).2 l=0) (h3:∀ m,m≤M→∃ P,P+m≤l∧wY l P ((P:Int)-l) (ev l t z H f0 m)) (hy:∀ m,m<M→∀ L:aV,L.lock=false→cd (n+2) (.round 1 2) [dc (JI l t z H f0 m).length (aK (JI l t z H f0 m)) false] (L::Gs m)=some (.bool true,L::Gs (m+1))) :
 exec (bA (n+2) 85 118) (.block 2 (.loop (part Try.f85 [1,1,1,1,1,1,1,0,0]))) (fD 2 s l t k d g h) (BE (s+1) l t k d g T z (ev l t z H f0 0)::Gs 0)=some (.normal,fD 2 s l t k d g h++[(56,.bool false)],BE (s+1) l t k d g T z (ev l t z H f0 M)::Gs M):=by
 refine ot (n:=n+2) (f:=85) (nt:=118) (c:=part Try.f85 [1,1,1,1,1,1,1,0,0]) 2 (fun m=>HM s l t k d g h m) (fun m=>BE (s+1) l t k d g T z (ev l t z H f0 m)::Gs m) M _ (by omega) (fun m hm=>?_) ?_
 · obtain ⟨P,p1,p2⟩:=h3 m (by omega)
   obtain ⟨q,a1,a2,a3,a4,a5,a6,a7,a8,a9,_⟩:=FJ (z:=z) hl ht hH.1 (h1 m hm) p2
   have hy:=hy m hm
   unfold JI at hy
   rw[a5,a6] at hy
   have hf:∀ j,j<q+1→∀ i,i<l→-900≤(cE t (aK (eV l z (ev l t z H f0 m).2 (q+1))) ((ev l t z H f0 m).1,(bo l z (ev l t z H f0 m).2 (q+1)).2) j).1 i∧(cE t (aK (eV l z (ev l t z H f0 m).2 (q+1))) ((ev l t z H f0 m).1,(bo l z (ev l t z H f0 m).2 (q+1)).2) j).1 i≤900:=fun j hj i hi=>by
    have:=(a9 j (by omega)).bd i hi
    omega
   have hv:∀ j,j<q+1→∀ i,i<l→(cE t (aK (eV l z (ev l t z H f0 m).2 (q+1))) ((ev l t z H f0 m).1,(bo l z (ev l t z H f0 m).2 (q+1)).2) j).2 i=true→(cE t (aK (eV l z (ev l t z H f0 m).2 (q+1))) ((ev l t z H f0 m).1,(bo l z (ev l t z H f0 m).2 (q+1)).2) j).1 i≤0:=fun j hj=>(a9 j (by omega)).off
   have hc:=h1 m hm
   show ∃ x,_=some x∧(_∧_=(_,BE (s+1) l t k d g T z (Hr l t z H (ev l t z H f0 m))::_))
   rw[a7]
   generalize Gs m=A at *
   generalize Gs (m+1)=B at *
   cases m with
   | zero =>
     rcases a4 with a4 | ⟨a4,a4n⟩
     · exact Lj n s l k t d g z _ h T _ A B q _ (gi _) (by omega) (by omega) hc a3 hl a8 ht hz hf hv hy
     · exact Ll n s l k t d g z _ h T _ A B q _ (gi _) (by omega) (by omega) a4n hc a3 hl a8 ht hz hf hv hy
   | succ m =>
     rcases a4 with a4 | ⟨a4,a4n⟩
     · exact Lk n s l k t d g z _ h T _ A B q _ (gi _) (by omega) (by omega) hc a3 hl a8 ht hz hf hv hy
     · exact Lm n s l k t d g z _ h T _ A B q _ (gi _) (by omega) (by omega) a4n hc a3 hl a8 ht hz hf hv hy
 · show exec _ _ (HM s l t k d g h M) (bM (s+1) l t k d g T z _ _ _ (cn (ev l t z H f0 M).2 l)::Gs M)=some (_,_,bM (s+1) l t k d g T z _ _ _ (cn (ev l t z H f0 M).2 l)::Gs M)
   rw[h2]
   cases M with
   | zero=>exact hJ (N8 (n+2) 2 s l k t d g z _ _ _ 0 h T (Gs 0)) (aB _) (aW (af _ _) Cz (fun x hx=>(Tr.ae hx).elim)) (ag _ _) (by first | (simp (disch:=omega) only[nV,nW];done) | (simp (disch:=omega) only[nV,nW];omega))
   | succ M=>exact hJ (N9 (n+2) s l k t d g z _ _ _ 0 h T (Gs (M+1))) (aB _) (aW (af _ _) Cz (fun x hx=>(Tr.ae hx).elim)) (ag _ _) (by first | (simp (disch:=omega) only[nV,nW];done) | (simp (disch:=omega) only[nV,nW];omega))
end
end Go.Eng
end
section
namespace Go.Eng
open Go.Proofs
theorem Mi:∀ b,(0,b) ∈ aM (bR Try.f85)→b=.loop (part Try.f85 [1,1,1,1,1,0,1,0,0]):=g7 (by kernel_rfl)
theorem Mj:∀ b,(2,b) ∈ aM (bR Try.f85)→b=.loop (part Try.f85 [1,1,1,1,1,1,1,0,0]):=g7 (by kernel_rfl)
noncomputable def Ma (l:Nat) (t:Nat→Int) (k:Nat) (d:Nat→Int) (T:Int):Nat→Int:=bD (pb l t (aK (kz (fun i=>min (d i) T) k)) l)
noncomputable def zP (l:Nat) (t:Nat→Int) (k:Nat) (d:Nat→Int) (T:Int):Nat→Int:=bD (Ma l t k d T)
theorem zy {l k:Nat} {t d:Nat→Int} (hs:Sh l t k d) (T:Int) {i:Nat} (hi:i<l):zP l t k d T i=nQ l t (fun i=>min (d i) T) i:=by
 have:=hs.l30
 unfold zP Ma
 rw[vB (l:=l) (by omega),z9 hi]
 exact x7 hs.fw (fun j hj=>by rw[hs.kl];exact zV _ hj) hi
section
variable (n s l k:Nat) (t d:Nat→Int) (h:Int) (Gs:Nat→aa)
theorem Po (hs:Sh l t k d) (H:Nat) (hh:h=(H:Nat)) (hH:0<H∧H≤1000) (hz:∀ i,i<l→1≤zP l t k d (fR l t d h:Nat) i) (M:Nat) (hM:M≤l) (h1:∀ m,m<M→0<cn (ev l t (zP l t k d (fR l t d h:Nat)) H (bD (cu t l)) m).2 l) (h2:cn (ev l t (zP l t k d (fR l t d h:Nat)) H (bD (cu t l)) M).2 l=0) (h3:∀ m,m≤M→∃ P,P+m≤l∧wY l P ((P:Int)-l) (ev l t (zP l t k d (fR l t d h:Nat)) H (bD (cu t l)) m))
 (hy:∀ m,m<M→∀ L:aV,L.lock=false→cd (n+5) (.round 1 2) [dc (JI l t (zP l t k d (fR l t d h:Nat)) H (bD (cu t l)) m).length (aK (JI l t (zP l t k d (fR l t d h:Nat)) H (bD (cu t l)) m)) false] (L::Gs m)=some (.bool true,L::Gs (m+1))) :
 cd (n+6) (.fn 85) [.yld 0 2,.ptrT (some 0) (.G [dK s l t k d (cu t l)]) 0,.ptrT none (.I .i64 [h]) 0] (Gs 0)=some (.tup [],Gs M):=by
 have hl1:=hs.l1
 have hl2:=hs.l30
 have hkl:=hs.kl
 have h72:cd (n+5) (.fn 72) [dK (s+1) l t k d (cu t l),.int .i64 h,.fn (.func 86) [] [.ptr 0 0 0 0]] (tI (s+1) l t k d (cu t l)::Gs 0)=some (.int .i64 (fR l t d h:Nat),tI (s+1) l t k d (cu t l)::Gs 0):=by
  have:=Ms n (s+1) l k 0 t d (cu t l) (tI (s+1) l t k d (cu t l)::Gs 0) h (fun T=>aK (kz (fun i=>min (d i) (T:Nat)) k)) hs.l30 hs.kl hs.tl hs.cyc (fun T _ _=>HF hs.kl (DP hs.bd _ (by omega))) (by omega) (fun T _ _=>Pp (n+1) (s+1) l k t d (cu t l) (Gs 0) (T:Nat) (by omega) (by omega))
  rw[C0 (q:=fun T=>bV l t (fun i=>min (d i) (T:Nat)) h) (fun T _ _=>IG hs.fw hs.kl h)] at this
  exact this
 have hbd:Bd l (aK (kz (fun i=>min (d i) ((fR l t d h:Nat):Int)) k)):=HF hs.kl (DP hs.bd _ (by omega))
 generalize hT:((fR l t d h:Nat):Int)=T at hz h1 h2 h3 hy h72 hbd
 have hxa:=Ns (n+5) 2 s l k t d (cu t l) (zP l t k d T) (bD (cu t l)) h T (Gs 0) hl2
 have hxm:=Nt (n+3) s l k t d (cu t l) (zP l t k d T) (bD (cu t l)) h T Gs H hh hH hl2 hs.tl hz M hM h1 h2 h3 hy
 refine aR (n:=n+5) Try.func85 rfl rfl rfl (Oq (n+5) s l k t d (cu t l) (aK (kz (fun i=>min (d i) T) k)) (Ma l t k d T) (ev l t (zP l t k d T) H (bD (cu t l)) M).1 (hW l (zP l t k d T) (w0 (bD (cu t l)) l)) (hW l (zP l t k d T) (ev l t (zP l t k d T) H (bD (cu t l)) M).2) (gW l (zP l t k d T) (w0 (bD (cu t l)) l)) (gW l (zP l t k d T) (ev l t (zP l t k d T) H (bD (cu t l)) M).2) (cn (w0 (bD (cu t l)) l) l) (cn (ev l t (zP l t k d T) H (bD (cu t l)) M).2 l) h T (Gs 0) (Gs M)) (bj _ (n+5) (cL (IY (n+3) (s+1) l k t d (cu t l) (iG (aX _) (fun x hx=>by rw[← Tr.ab hx];exact h72)) (by omega) (by omega)) (fun H=>Mn (n+2) (s+1) l k k t d (cu t l) (aK (kz (fun i=>min (d i) T) k)) false H hl2 hkl hs.tl hs.cyc hbd))) (aW (aW (af _ _) Mj (fun x hx=>cG hx hxm)) Mi (fun x hx=>cG hx hxa)) (ag _ _) ?_
 clear hxa hxm h72 hbd h1 h2 h3 hy hz
 generalize hW l (zP l t k d T) (w0 (bD (cu t l)) l)=A1 at *
 generalize gW l (zP l t k d T) (w0 (bD (cu t l)) l)=A2 at *
 generalize cn (w0 (bD (cu t l)) l) l=A3 at *
 generalize Ma l t k d T=A4 at *
 generalize cu t l=g at *
 generalize aK (kz (fun i=>min (d i) T) k)=Y at *
 exact wF
end
end Go.Eng
end
section
namespace Go.Eng
theorem EF (p:Nat→Bool):(oF p<40→p (oF p)=true)∧∀ M,1≤M→M<40→p M=true→oF p≤M:=by
 unfold oF
 cases c:dC (fun j=>p (j+1)) 39 with
 | true =>
   rw[if_pos rfl]
   have a:=iH c
   obtain ⟨_,_,d,b⟩:=mj (fun j=>p (j+1)) 39 0
   have b:=b (by omega)
   refine ⟨fun _=>b,fun M h1 h2 h3=>?_⟩
   apply Classical.byContradiction
   intro hc
   have:=d (M-1) (by omega) (by omega)
   rw[show M-1+1=M by omega,h3] at this
   cases this
 | false =>
   rw[if_neg (by decide)]
   refine ⟨fun h=>by omega,fun M h1 h2 h3=>?_⟩
   have:=gI c (M-1) (by omega)
   rw[show M-1+1=M by omega,h3] at this
   cases this
section
variable {l k H:Nat} {t d:Nat→Int} {h:Int}
theorem mI (hs:Sh l t k d) (hc:bV l t d h=true):bV l t (fun i=>min (d i) (fR l t d h:Nat)) h=true∧1≤fR l t d h∧fR l t d h≤40:=by
 have hb:=GB (fun T=>bV l t (fun i=>min (d i) (T:Nat)) h)
 refine ⟨?_,hb⟩
 by_cases c:fR l t d h<40
 · exact (EF (fun T=>bV l t (fun i=>min (d i) (T:Nat)) h)).1 c
 · have e:fR l t d h=40:=by have:fR l t d h≤40:=hb.2;omega
   rw[e,ug hs.fw (e':=d) (fun j hj=>by have:=hs.d40 j hj;show min (d j) ((40:Nat):Int)=d j;omega)]
   exact hc
theorem oi (hs:Sh l t k d):∀ i,i<l→bD (cu t l) i=(cn (fun x=>decide (t x=(i:Int))) l:Nat):=fun i hi=>by
 rw[mh _ _ (by have:=hs.l30;omega),Bv]
theorem FL (hs:Sh l t k d) (hc:bV l t d h=true):∀ i,i<l→1≤zP l t k d (fR l t d h:Nat) i:=fun i hi=>by
 obtain ⟨a,b,c⟩:=mI hs hc
 have:=(mf _ _ _ _).1 a 0 (by omega)
 rw[show h*((0:Nat):Int)=0 from Int.mul_zero h] at this
 have:=mg (p:=fun i=>decide (nQ l t (fun i=>min (d i) (fR l t d h:Nat)) i≤((0:Nat):Int))) (n:=l) (by have:(jE l t (fun i=>min (d i) (fR l t d h:Nat)) ((0:Nat):Int):Int)≤0:=this;unfold jE at this;omega) i hi
 rw[decide_eq_false_iff_not] at this
 rw[zy hs _ hi];omega
theorem Hy (hs:Sh l t k d) (i:Nat) (hi:i<l) (T:Nat):zP l t k d (T:Int) i≤d i∧zP l t k d (T:Int) i≤T:=by
 rw[zy hs _ hi]
 have:=KV (e:=fun i=>min (d i) (T:Int)) hs.fw hi
 omega
theorem Bq (hs:Sh l t k d) (hc:bV l t d h=true) (hh:h=(H:Nat)):∀ i,i<l→dS l t (zP l t k d (fR l t d h:Nat)) H (bD (cu t l)) (zP l t k d (fR l t d h:Nat) i).toNat i=true:=fun i hi=>by
 obtain ⟨a,b,c⟩:=mI hs hc
 have hz:=FL hs hc
 have hzi:=hz i hi
 refine EY hs.l30 hs.tl (oi hs) hz (fun y x hy hx hyx=>?_) (fun L hL=>?_) _ i hi (by omega)
 · rw[zy hs _ hy,zy hs _ hx]
   exact GA hs.fw hy hx hyx
 · obtain ⟨j,hj,hjL⟩:=hL
   have h40:=(Hy hs j hj (fR l t d h)).2
   have:=(mf _ _ _ _).1 a L (by omega)
   unfold jE at this
   rw[dq (q:=fun i=>decide (zP l t k d (fR l t d h:Nat) i≤(L:Int))) (fun x hx=>by rw[zy hs _ hx]),show h*(L:Int)=((H*L:Nat):Int) by rw[hh,Int.natCast_mul]] at this
   exact Int.ofNat_le.1 this
theorem vn (hs:Sh l t k d) (hc:bV l t d h=true) (hh:h=(H:Nat)) {M:Nat} (hM:M≤l) (h1:∀ m,m<M→0<cn (ev l t (zP l t k d (fR l t d h:Nat)) H (bD (cu t l)) m).2 l) (h2:cn (ev l t (zP l t k d (fR l t d h:Nat)) H (bD (cu t l)) M).2 l=0):M=fR l t d h:=by
 obtain ⟨a,b,c⟩:=mI hs hc
 have hl:=hs.l30
 have hl1:=hs.l1
 have hin:=Bq hs hc hh
 have hlaid:=fun i hi=>DH hl hs.fw (oi hs) h2 (l-pc l t i) i hi (Nat.le_refl _)
 have hle:M≤fR l t d h:=by
  apply Classical.byContradiction
  intro hn
  obtain ⟨i,hi,hw⟩:=po (h1 (fR l t d h) (by omega))
  have hd:=((Ay (z:=zP l t k d (fR l t d h:Nat)) (H:=H) hl hs.tl (oi hs) (fR l t d h)).q2 i hi).1 hw
  have:=(Hy hs i hi (fR l t d h)).2
  rw[gH (show (zP l t k d (fR l t d h:Nat) i).toNat≤fR l t d h by omega) (hin i hi)] at hd
  cases hd.1
 have hM1:1≤M:=by
  apply Classical.byContradiction
  intro hn
  obtain rfl:M=0:=by omega
  have:=hlaid 0 (by omega)
  cases this
 have hge:fR l t d h≤M:=by
  refine (EF (fun T=>bV l t (fun i=>min (d i) (T:Nat)) h)).2 M hM1 (by omega) ?_
  refine (mf _ _ _ _).2 (fun T hT=>?_)
  have h3:jE l t (fun i=>min (d i) (M:Nat)) (T:Nat)≤cn (dS l t (zP l t k d (fR l t d h:Nat)) H (bD (cu t l)) T) l:=ij (fun i hi hp=>by
   rw[decide_eq_true_eq] at hp
   obtain ⟨q,q1,q2⟩:=Jd (e:=fun i=>min (d i) (M:Nat)) hs.fw hi
   obtain ⟨s1,_⟩:=np hs.fw hi q q1
   have s2:=ia hs.tl (show (i:Int)<l by omega) q
   have hcl:(bO t q (i:Int)).toNat<l:=by omega
   have hd1:=hs.d1 _ hcl
   have hK:dS l t (zP l t k d (fR l t d h:Nat)) H (bD (cu t l)) (min (d (bO t q (i:Int)).toNat) (M:Nat)).toNat (bO t q (i:Int)).toNat=true:=by
    by_cases e:(M:Int)≤d (bO t q (i:Int)).toNat
    · exact gH (by omega) (hlaid _ hcl)
    · have:=(Hy hs _ hcl (fR l t d h)).1
      exact gH (by omega) (hin _ hcl)
   obtain ⟨e1,e2⟩:=By hl hs.fw (oi hs) hi q _ q1 hK
   exact gH (by omega) e2)
  have h4:=HJ (z:=zP l t k d (fR l t d h:Nat)) (H:=H) hl hs.tl (oi hs) T
  rw[show h*(T:Int)=((H*T:Nat):Int) by rw[hh,Int.natCast_mul]]
  exact Int.ofNat_le.2 (Nat.le_trans h3 h4)
 omega
end
end Go.Eng
end
section
namespace Go.Eng
open Go.Proofs
noncomputable def vf (l k:Nat) (t d:Nat→Int) (h:Int) (m:Nat):List Int:=JI l t (zP l t k d (fR l t d h:Nat)) h.toNat (bD (cu t l)) m
section
variable (n s l k:Nat) (t d:Nat→Int) (h:Int) (Gs:Nat→aa)
theorem Mw (hs:Sh l t k d) (hc:bV l t d h=true) (hh:1≤h∧h≤10) (hy:∀ m,m<fR l t d h→∀ L:aV,L.lock=false→cd (n+5) (.round 1 2) [dc (vf l k t d h m).length (aK (vf l k t d h m)) false] (L::Gs m)=some (.bool true,L::Gs (m+1))) :
 cd (n+6) (.fn 85) [.yld 0 2,.ptrT (some 0) (.G [dK s l t k d (cu t l)]) 0,.ptrT none (.I .i64 [h]) 0] (Gs 0)=some (.tup [],Gs (fR l t d h)):=by
 have e:h=(h.toNat:Int):=by omega
 obtain ⟨M,a,b,c,f⟩:=FD (H:=h.toNat) (z:=zP l t k d (fR l t d h:Nat)) (f0:=bD (cu t l)) hs.l30 hs.tl (by omega) (fun i hi=>by
  rw[oi hs i hi]
  have:=lB (fun x=>decide (t x=(i:Int))) l
  have:=hs.l30
  omega)
 have hM:=vn hs hc e a b c
 subst hM
 exact Po n s l k t d h Gs hs h.toNat e (by omega) (FL hs hc) _ a b c f hy
end
end Go.Eng
end
section
namespace Go.Eng
open Go.Proofs
noncomputable def vZ (l:Nat) (t:Nat→Int) (k:Nat) (d:Nat→Int) (L:gM):aV:=⟨false,[(0,.row (.G [dc l t false,dc k d false])),(0,.row (.G [.nils])),(0,.loop L)]⟩
noncomputable def jk (l:Nat) (t:Nat→Int) (k:Nat) (d:Nat→Int) (L:gM) (v m:Nat) (f:Nat→Nat→Int) (g:Nat→Nat):aV:=⟨false,[(0,.row (.G [dc l t false,dc k d false])),(0,.row (.G [.slc 0 3 v 0 1 m none])),(0,.loop L),(v,.row (.F (fun j=>dc (g j) (f j) false) m))]⟩
end Go.Eng
end
