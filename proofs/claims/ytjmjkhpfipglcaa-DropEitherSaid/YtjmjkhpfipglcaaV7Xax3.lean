/- Drop: plain law of DropEither: ways, sides, truths. -/
import Derived.Test.YtjmjkhpfipglcaaV7Wgx5
import Derived.Test.YtjmjkhpfipglcaaV7Klx13
section
namespace Go.Eng
open Go.Proofs
set_option linter.unusedVariables false
set_option linter.unusedSimpArgs false
theorem jh {f:Nat→Bool} {N:Nat} (h:∀ i,i<N→f i=false):bD f N=false:=by
 cases e:bD f N with
 | false=>rfl
 | true=>obtain ⟨i,i1,i2⟩:=(bV _ _).1 e;rw[h i i1] at i2;cases i2
theorem lj {f:Nat→Bool} {N:Nat} (h:bD f N=false) {i:Nat} (hi:i<N):f i=false:=by
 cases e:f i with
 | false=>rfl
 | true=>rw[(bV _ _).2 ⟨i,hi,e⟩] at h;cases h
section
variable {w:Int} {ls ld lb:Nat} {zs zd zb:Nat→Int} {sure:Bool} {p q:Int}
structure vI (ls:Nat) (hl:Int→Int→Bool) (m:Nat) (z:Nat→Int):Prop where
 lo:2≤m
 hi:m≤12
 pl:∀ i,i<m→-2≤z i∧z i<ls
 ne:∀ i k,k<i→i<m→z i≠z k
 hh:∀ i,i+1<m→hl (z i) (z (i+1))=true
theorem Ea {hl:Int→Int→Bool} {m:Nat} {z:Nat→Int} (h:xQ w ls ld zs zd hl m z=0):vI ls hl m z:=by
 unfold xQ at h
 by_cases h0:bN w ls ld zs zd≠0
 · rw[if_pos h0] at h;exact absurd h h0
 rw[if_neg h0] at h
 by_cases h1:m<2∨12<m
 · rw[if_pos h1] at h;exact absurd h (by decide)
 rw[if_neg h1] at h
 cases h2:bD (nu ls z) m with
 | true=>rw[h2,if_pos rfl] at h;exact absurd h (by decide)
 | false =>
 rw[h2,if_neg (by decide)] at h
 cases h3:bD (xR z) m with
 | true=>rw[h3,if_pos rfl] at h;exact absurd h (by decide)
 | false =>
 rw[h3,if_neg (by decide)] at h
 cases h4:bD (zg hl z) (m-1) with
 | true=>rw[h4,if_pos rfl] at h;exact absurd h (by decide)
 | false =>
 refine ⟨by omega,by omega,fun i hi=>?_,fun i k hk hi=>?_,fun i hi=>?_⟩
 · have:=lj h2 hi
   simpa[nu,bx] using this
 · have:=lj (lj h3 hi) hk
   simpa[F7] using this
 · have:=lj h4 (i:=i) (by omega)
   simpa[zg] using this
theorem Jm {hl:Int→Int→Bool} {m:Nat} {z:Nat→Int} (hc:bN w ls ld zs zd=0) (h:vI ls hl m z):xQ w ls ld zs zd hl m z=0:=by
 have h1:=h.lo
 have h2:=h.hi
 have e2:bD (nu ls z) m=false:=jh (fun i hi=>by have:=h.pl i hi;simp[nu,bx];omega)
 have e3:bD (xR z) m=false:=jh (fun i hi=>jh (f:=F7 z i) (fun k hk=>by have:=h.ne i k hk hi;simp[F7];exact this))
 have e4:bD (zg hl z) (m-1)=false:=jh (fun i hi=>by have:=h.hh i (by omega);simp[zg];exact this)
 unfold xQ
 rw[if_neg (fun x=>x hc),if_neg (by omega),e2,e3,e4];rfl
theorem vv (h:bN w ls ld zs zd=0) (hq:-2≤q∧q<ls) {m:Nat} {z:Nat→Int} (hz:∀ i,i<m→-2≤z i∧z i<ls) (hd:∀ i,i+1<m→z i≠z (i+1)) (hh:∀ i,i+1<m→dx w ld zs zd sure (z i) (z (i+1))=true) (h0:z 0=q) :
 ∀ j:Nat,j<m→0<ea w ls ld zs zd sure q (z j+2).toNat∧ea w ls ld zs zd sure q (z j+2).toNat≤j+1
 | 0,_=>by
   have:=((mI (sure:=sure) h hq).one (z 0+2).toNat).2 (by rw[h0])
   omega
 | j+1,hj=>by
   obtain ⟨i1,i2⟩:=vv h hq hz hd hh h0 j (by omega)
   have a:=hz j (by omega)
   have b:=hz (j+1) hj
   have e1:(((z j+2).toNat:Nat):Int)-2=z j:=by omega
   have e2:(((z (j+1)+2).toNat:Nat):Int)-2=z (j+1):=by omega
   have:=(mI (sure:=sure) h hq).nb (z (j+1)+2).toNat (z j+2).toNat (by omega) (by omega) (by rw[e1,e2];exact (gJ h a b).2 ⟨hd j hj,hh j hj⟩) i1
   omega
theorem FU (h:bN w ls ld zs zd=0) (hp:-2≤p∧p<ls) (hq:-2≤q∧q<ls) {m:Nat} {z:Nat→Int} (hw:vI ls (dx w ld zs zd sure) m z) (ht:(z 0=p∧z (m-1)=q)∨(z 0=q∧z (m-1)=p)):0<ea w ls ld zs zd sure q (p+2).toNat∧ea w ls ld zs zd sure q (p+2).toNat≤m:=by
 have h1:=hw.lo
 rcases ht with ⟨t0,t1⟩ | ⟨t0,t1⟩
 · have:=vv (sure:=sure) h hq (m:=m) (z:=fun i=>z (m-1-i)) (fun i hi=>hw.pl _ (by omega)) (fun i hi=>hw.ne _ _ (by omega) (by omega)) (fun i hi=>by
    have a:=hw.hh (m-1-(i+1)) (by omega)
    rw[show m-1-(i+1)+1=m-1-i by omega] at a
    rw[l4 h (hw.pl _ (by omega)) (hw.pl _ (by omega))];exact a) (by rw[show m-1-0=m-1 by omega];exact t1) (m-1) (by omega)
   rw[show m-1-(m-1)=0 by omega,t0] at this
   omega
 · have:=vv (sure:=sure) h hq hw.pl (fun i hi=>(hw.ne _ _ (by omega) (by omega)).symm) hw.hh t0 (m-1) (by omega)
   rw[t1] at this
   omega
theorem yI (h:bN w ls ld zs zd=0) (hp:-2≤p∧p<ls) (hq:-2≤q∧q<ls) (h0:0<ea w ls ld zs zd sure p (q+2).toNat):0<ea w ls ld zs zd sure q (p+2).toNat:=by
 have hP:=mI (sure:=sure) h hp
 have hQ:=mI (sure:=sure) h hq
 have key:∀ v i:Nat,i<ls+2→ea w ls ld zs zd sure p i=v→0<v→0<ea w ls ld zs zd sure q i→0<ea w ls ld zs zd sure q (p+2).toNat:=by
  intro v
  induction v with
  | zero=>intro i _ _ h;omega
  | succ v ih =>
    intro i hi hv _ hz
    by_cases h1:v=0
    · have:=(hP.one i).1 (by omega)
      rw[← this];exact hz
    · obtain ⟨_,k,k1,k2,k3⟩:=hP.prev i (by omega)
      refine ih k k1 (by omega) (by omega) ?_
      obtain ⟨x1,x2⟩:=(gJ h (a:=(k:Int)-2) (b:=(i:Int)-2) (by omega) (by omega)).1 k2
      exact (hQ.nb k i k1 hi ((gJ h (by omega) (by omega)).2 ⟨fun x=>x1 x.symm,by rw[l4 h (by omega) (by omega)];exact x2⟩) hz).1
 have:=hP.rng (q+2).toNat
 exact key (ea w ls ld zs zd sure p (q+2).toNat).toNat (q+2).toNat (by omega) (by omega) (by omega) (by rw[(hQ.one _).2 rfl];decide)
structure uo (ls:Nat) (hl:Int→Int→Bool) (p q:Int) (m:Nat) (z:Nat→Int):Prop where
 pl:∀ i,i<m→-2≤z i∧z i<ls
 inc:∀ i,0<i→i<m→z (i-1)<z i
 has:iA z m p=true
 not:iA z m q=false
 cl:∀ i k,i<m→k<ls+2→iA z m ((k:Int)-2)=false→hl (z i) ((k:Int)-2)=false
theorem D5 (he:ij w ls ld zs zd p q=0) {m:Nat} {z:Nat→Int} (h:AK w ls ld zs zd sure p q m z=0):uo ls (dx w ld zs zd sure) p q m z:=by
 unfold AK at h
 rw[if_neg (fun x=>x he)] at h
 cases h1:bD (sl ls z) m with
 | true=>rw[h1,if_pos rfl] at h;exact absurd h (by decide)
 | false =>
 rw[h1,if_neg (by decide)] at h
 cases h2:iA z m p with
 | false=>rw[h2,if_pos rfl] at h;exact absurd h (by decide)
 | true =>
 rw[h2,if_neg (by decide)] at h
 cases h3:iA z m q with
 | true=>rw[h3,if_pos rfl] at h;exact absurd h (by decide)
 | false =>
 rw[h3,if_neg (by decide)] at h
 cases h4:bD (Dy ls z m (dx w ld zs zd sure)) m with
 | true=>rw[h4,if_pos rfl] at h;exact absurd h (by decide)
 | false =>
 refine ⟨fun i hi=>?_,fun i h0 hi=>?_,h2,h3,fun i k hi hk hn=>?_⟩
 · have:=lj h1 hi
   simp[sl,bx] at this
   exact this.1
 · have:=lj h1 hi
   simp[sl,bx] at this
   exact this.2 h0
 · have:=lj (lj h4 hi) hk
   simp[Gm,hn] at this
   exact this
theorem Je (he:ij w ls ld zs zd p q=0) {m:Nat} {z:Nat→Int} (h:uo ls (dx w ld zs zd sure) p q m z):AK w ls ld zs zd sure p q m z=0:=by
 have e1:bD (sl ls z) m=false:=jh (fun i hi=>by have:=h.pl i hi;have:=h.inc i;simp[sl,bx];omega)
 have e2:bD (Dy ls z m (dx w ld zs zd sure)) m=false:=jh (fun i hi=>jh (f:=Gm z m (dx w ld zs zd sure) i) (fun k hk=>by
  cases hx:iA z m ((k:Int)-2) with
  | true=>simp[Gm,hx]
  | false=>simp[Gm,hx,h.cl i k hi hk hx]))
 unfold AK
 rw[if_neg (fun x=>x he),e1,h.has,h.not,e2];rfl
theorem Dc (h:bN w ls ld zs zd=0) (hp:-2≤p∧p<ls) (hq:-2≤q∧q<ls) {m:Nat} {z:Nat→Int} (hs:uo ls (dx w ld zs zd sure) p q m z):ea w ls ld zs zd sure q (p+2).toNat=0:=by
 have hZ:=mI (sure:=sure) h hq
 have key:∀ v i:Nat,i<ls+2→ea w ls ld zs zd sure q i=v→0<v→iA z m ((i:Int)-2)=false:=by
  intro v
  induction v with
  | zero=>intro i _ _ h;omega
  | succ v ih =>
    intro i hi hv _
    by_cases h1:v=0
    · have:=(hZ.one i).1 (by omega)
      rw[show (i:Int)-2=q by omega];exact hs.not
    · obtain ⟨_,k,k1,k2,k3⟩:=hZ.prev i (by omega)
      have hk:=ih k k1 (by omega) (by omega)
      cases hx:iA z m ((i:Int)-2) with
      | false=>rfl
      | true =>
        obtain ⟨j,j1,j2⟩:=(bV _ _).1 hx
        have j2:=of_decide_eq_true j2
        have:=hs.cl j k j1 k1 hk
        rw[j2,l4 h (by omega) (by omega),((gJ h (a:=(k:Int)-2) (b:=(i:Int)-2) (by omega) (by omega)).1 k2).2] at this
        cases this
 have hr:=hZ.rng (p+2).toNat
 by_cases e:ea w ls ld zs zd sure q (p+2).toNat=0
 · exact e
 · have:=key (ea w ls ld zs zd sure q (p+2).toNat).toNat (p+2).toNat (by omega) (by omega) (by omega)
   rw[show (((p+2).toNat:Nat):Int)-2=p by omega,hs.has] at this
   cases this
theorem oh {L:List Int} {x:Int}:iA (bE L) L.length x=true↔x ∈ L:=by
 unfold iA
 rw[bV]
 constructor
 · rintro ⟨i,i1,i2⟩
   have i2:=of_decide_eq_true i2
   rw[fb,List.getD_eq_getElem?_getD,List.getElem?_eq_getElem i1] at i2
   rw[← i2];exact List.getElem_mem i1
 · intro hx
   obtain ⟨i,i1,i2⟩:=List.getElem_of_mem hx
   refine ⟨i,i1,decide_eq_true ?_⟩
   rw[fb,List.getD_eq_getElem?_getD,List.getElem?_eq_getElem i1];exact i2
theorem o9 (hp:-2≤p∧p<ls) {x:Int}:x ∈ qj w ls ld zs zd sure p↔(-2≤x∧x<ls)∧0<ea w ls ld zs zd sure p (x+2).toNat:=by
 unfold qj
 rw[z6]
 constructor
 · rintro ⟨i,i1,i2,rfl⟩
   have i2:=of_decide_eq_true i2
   refine ⟨by omega,?_⟩
   rw[show ((i:Int)-2+2).toNat=i by omega];exact i2
 · rintro ⟨h1,h2⟩
   exact ⟨(x+2).toNat,by omega,decide_eq_true h2,by omega⟩
theorem Ew (h:bN w ls ld zs zd=0) (hp:-2≤p∧p<ls) (hq:-2≤q∧q<ls) (h0:ea w ls ld zs zd sure q (p+2).toNat=0):uo ls (dx w ld zs zd sure) p q (qj w ls ld zs zd sure p).length (bE (qj w ls ld zs zd sure p)):=by
 have hP:=mI (sure:=sure) h hp
 have hm:∀ i,i<(qj w ls ld zs zd sure p).length→bE (qj w ls ld zs zd sure p) i ∈ qj w ls ld zs zd sure p:=fun i hi=>by
  rw[fb,List.getD_eq_getElem?_getD,List.getElem?_eq_getElem hi];exact List.getElem_mem hi
 refine ⟨fun i hi=>((o9 hp).1 (hm i hi)).1,fun i h0 hi=>?_,oh.2 ((o9 hp).2 ⟨hp,?_⟩),?_,fun i k hi hk hn=>?_⟩
 · have:=List.pairwise_iff_getElem.1 (z5 (fun i=>decide (0<ea w ls ld zs zd sure p i)) (ls+2)) (i-1) i (by show i-1<(qj w ls ld zs zd sure p).length;omega) hi (by omega)
   rw[fb,fb,List.getD_eq_getElem?_getD,List.getD_eq_getElem?_getD,List.getElem?_eq_getElem hi,List.getElem?_eq_getElem (show i-1<(qj w ls ld zs zd sure p).length by omega)]
   exact this
 · rw[(hP.one _).2 rfl];decide
 · cases hx:iA (bE (qj w ls ld zs zd sure p)) (qj w ls ld zs zd sure p).length q with
   | false=>rfl
   | true =>
     have:=yI h hp hq ((o9 hp).1 (oh.1 hx)).2
     omega
 · cases hx:dx w ld zs zd sure (bE (qj w ls ld zs zd sure p) i) ((k:Int)-2) with
   | false=>rfl
   | true =>
     obtain ⟨a1,a2⟩:=(o9 hp).1 (hm i hi)
     generalize bE (qj w ls ld zs zd sure p) i=a at *
     have hk':¬ ((k:Int)-2 ∈ qj w ls ld zs zd sure p):=fun x=>by rw[oh.2 x] at hn;cases hn
     refine absurd ((o9 hp).2 ⟨by omega,?_⟩) hk'
     rw[show ((k:Int)-2+2).toNat=k by omega]
     by_cases e:a=(k:Int)-2
     · rw[show k=(a+2).toNat by omega];exact a2
     · exact (hP.nb k (a+2).toNat hk (by omega) (by rw[show (((a+2).toNat:Nat):Int)-2=a by omega];exact (gJ h a1 (by omega)).2 ⟨e,hx⟩) a2).1
theorem Df (h:bN w ls ld zs zd=0) (hb:∀ i,0≤zb i∧zb i≤65535) {a b:Int} (ha:-2≤a∧a<ls) (hbb:-2≤b∧b<ls) (hl:dx w ld zs zd true a b=true):aV w zs (Aj lb zb zd ld) a b=true:=by
 have t:=FN (lb:=lb) (zb:=zb) h hb (p:=a) (q:=b) (by simp[bx];omega) (by simp[bx];omega)
 have hk:jZ w ld zs zd a b=2:=by
  have:=of_decide_eq_true hl
  rw[if_pos rfl] at this
  unfold jZ at this ⊢
  by_cases x:aV w zs (lN false zd ld) a b=true
  · rw[if_pos x]
  · rw[if_neg x] at this
    split at this<;>omega
 rw[hk] at t
 unfold Ir at t
 rw[if_pos rfl] at t
 simp only[Bool.and_eq_true] at t
 exact t.2.2
theorem Fi (h:bN w ls ld zs zd=0) (hp:-2≤p∧p<ls) (hq:-2≤q∧q<ls) (hpq:p≠q) {y:Nat→Int} {m:Nat} (hm:ea w ls ld zs zd sure q (p+2).toNat=m) (h0:0<m) (hy:∀ j,j<m→y j=vF (ea w ls ld zs zd sure q) (dx w ld zs zd sure) ls p j) :
 vI ls (dx w ld zs zd sure) m y∧y 0=p∧y (m-1)=q:=by
 have hZ:=mI (sure:=sure) h hq
 have hc:=eY h
 obtain ⟨N,n1,n2,n3,n4⟩:=Ds hc.1 hq hZ
 have hW:=vu (sure:=sure) h hp hq n4 (by omega)
 have hr:=hZ.rng (p+2).toNat
 have h1:m≠1:=fun e=>hpq (by have:=(hZ.one (p+2).toNat).1 (by omega);omega)
 have hz:∀ i,i<m→ea w ls ld zs zd sure q (y i+2).toNat=(m:Int)-i:=fun i hi=>by
  rw[hy i hi];have:=(hW i (by omega)).2.2;omega
 have hpl:∀ i,i<m→-2≤y i∧y i<ls:=fun i hi=>by rw[hy i hi];exact (hW i (by omega)).2.1
 refine ⟨⟨by omega,by omega,hpl,fun i k hk hi e=>?_,fun i hi=>?_⟩,?_,?_⟩
 · have a:=hz i hi
   have b:=hz k (by omega)
   rw[e] at a;omega
 · have a:=hz i (by omega)
   have b:=hz (i+1) hi
   have e:y (i+1)=rX (ea w ls ld zs zd sure q) (dx w ld zs zd sure) (y i) (ls+2):=by rw[hy (i+1) hi,hy i (by omega)];rfl
   rcases ve (ea w ls ld zs zd sure q) (dx w ld zs zd sure) (y i) (ls+2) with ⟨c1,_⟩ | ⟨j,c1,c2,c3,c4⟩
   · have:=hpl (i+1) hi
     omega
   · rw[e,c4]
     unfold rC at c2
     simp only[Bool.and_eq_true,decide_eq_true_eq] at c2
     exact c2.2.2.2
 · rw[hy 0 h0];rfl
 · have a:=hz (m-1) (by omega)
   have:=(hZ.one _).1 (show ea w ls ld zs zd sure q (y (m-1)+2).toNat=1 by omega)
   have:=hpl (m-1) (by omega)
   omega
end
end Go.Eng
end
section
namespace Go.Eng
open Go.Proofs
set_option linter.unusedVariables false
set_option linter.unusedSimpArgs false
theorem Av (A:Nat→Int):∀ k:Nat,(nr A k).length=k+1∧∀ j,j≤k→(nr A k).getD j 0=A j
 | 0=>⟨rfl,fun j hj=>by rw[show j=0 by omega];rfl⟩
 | k+1=>by
   obtain ⟨i1,i2⟩:=Av A k
   have e:nr A (k+1)=nr A k++[A (k+1)]:=rfl
   rw[e]
   refine ⟨by simp[i1],fun j hj=>?_⟩
   by_cases h:j≤k
   · rw[← i2 j h,List.getD_eq_getElem?_getD,List.getD_eq_getElem?_getD,List.getElem?_append_left (by omega)]
   · rw[show j=k+1 by omega,List.getD_eq_getElem?_getD,List.getElem?_append_right (by omega),i1];simp
section
variable (w:Int) (ls ld:Nat) (zs zd:Nat→Int) (p q:Int) (sure:Bool)
theorem Dm (he:ij w ls ld zs zd p q=0) :
 (ea w ls ld zs zd sure q (p+2).toNat=0∧∀ k H,cd (k+16) (.fn 29) [aa w ls zs ld zd,.int .i64 p,.int .i64 q,.bool sure] H=some (.tup [.nils,.int .i64 5],H)) ∨
 ∃ M y,ea w ls ld zs zd sure q (p+2).toNat=((M+2:Nat):Int)∧(∀ j,j<M+2→y j=vF (ea w ls ld zs zd sure q) (dx w ld zs zd sure) ls p j)∧∀ k H,cd (k+16) (.fn 29) [aa w ls zs ld zd,.int .i64 p,.int .i64 q,.bool sure] H=some (.tup [bn (M+2) y true,.int .i64 0],H):=by
 obtain ⟨h,h1,h2,h3⟩:=g7 he
 simp only[bx,Bool.and_eq_true,decide_eq_true_eq] at h1 h2
 have hc:=eY h
 have hZ:=mI (sure:=sure) h h2
 obtain ⟨N,n1,n2,n3,n4⟩:=Ds hc.1 h2 hZ
 have hb:=xP h2 hZ (N+1)
 have hs:(ia (dR w ls ld zs zd) sure ls q (N+1)).hS p=true↔0<ea w ls ld zs zd sure q (p+2).toNat:=by
  rw[hb.pS]
  have:=n4 (p+2).toNat
  constructor
  · rintro ⟨_,b | ⟨_,i,i1,_⟩⟩<;>omega
  · intro e;exact ⟨h1,.inl (by omega)⟩
 by_cases h0:ea w ls ld zs zd sure q (p+2).toNat=0
 · have hp:(ia (dR w ls ld zs zd) sure ls q (N+1)).hS p=false:=by
    cases hx:(ia (dR w ls ld zs zd) sure ls q (N+1)).hS p with
    | false=>rfl
    | true=>have:=hs.1 hx;omega
   refine .inl ⟨h0,fun k H=>LW k w ls ld zs zd H p q sure he (fun k' H=>?_)⟩
   have:=L7 (k+k') w ls ld zs zd (ft zd ld) (dR w ls ld zs zd) H p q sure hc.1 N n1 n2 n3 hp
   rw[show k+k'+15=k+15+k' by omega] at this
   exact this
 · have hr:=hZ.rng (p+2).toNat
   have hpos:0<ea w ls ld zs zd sure q (p+2).toNat:=by omega
   have hne1:ea w ls ld zs zd sure q (p+2).toNat≠1:=fun e=>by have:=(hZ.one _).1 e;omega
   have hW:=vu (sure:=sure) h h1 h2 n4 hpos
   have hgp:=hb.vS p (hs.2 hpos)
   obtain ⟨M,hM⟩:∃ M:Nat,ea w ls ld zs zd sure q (p+2).toNat=(M:Int)+2:=⟨(ea w ls ld zs zd sure q (p+2).toNat-2).toNat,by omega⟩
   have hA:∀ k,k<M+1→-2≤vF (ea w ls ld zs zd sure q) (dx w ld zs zd sure) ls p k∧vF (ea w ls ld zs zd sure q) (dx w ld zs zd sure) ls p k<ls∧vF (ea w ls ld zs zd sure q) (dx w ld zs zd sure) ls p k≠q:=fun k hk=>by
    obtain ⟨_,i2,i3⟩:=hW k (by omega)
    refine ⟨i2.1,i2.2,fun e=>?_⟩
    rw[e,(hZ.one _).2 rfl] at i3;omega
   have hE:vF (ea w ls ld zs zd sure q) (dx w ld zs zd sure) ls p (M+1)=q:=by
    obtain ⟨_,i2,i3⟩:=hW (M+1) (by omega)
    have:=(hZ.one (vF (ea w ls ld zs zd sure q) (dx w ld zs zd sure) ls p (M+1)+2).toNat).1 (by omega)
    omega
   have hL:nr (jy (dR w ls ld zs zd) sure ls (ia (dR w ls ld zs zd) sure ls q (N+1)) p) (M+1)=nr (vF (ea w ls ld zs zd sure q) (dx w ld zs zd sure) ls p) (M+1):=um (M+1) (fun i hi=>(hW i (by omega)).1)
   have h80:∀ k H,cd (k+15) (.fn 80) [gu w ls ld zs zd (ft zd ld) (dR w ls ld zs zd),.int .i64 p,.int .i64 q,.bool sure] H=some (bn (M+2) (bE (nr (vF (ea w ls ld zs zd sure q) (dx w ld zs zd sure) ls p) (M+1))) false,H):=fun k H=>by
    have:=L8 k w ls ld zs zd (ft zd ld) (dR w ls ld zs zd) H p q sure hc.1 N n1 n2 n3 (hs.2 hpos) M (by omega) ⟨by omega,by omega⟩ (fun k hk=>by rw[(hW k (by omega)).1];exact hA k hk) (by rw[(hW (M+1) (by omega)).1];exact hE)
    rw[hL] at this
    exact this
   obtain ⟨y,y1,y2⟩:=LX w ls ld zs zd p q sure he (M+2) ⟨by omega,by omega⟩ (bE (nr (vF (ea w ls ld zs zd sure q) (dx w ld zs zd sure) ls p) (M+1))) h80
   exact .inr ⟨M,y,by omega,fun j hj=>by rw[y1 j hj,fb];exact (Av _ (M+1)).2 j (by omega),y2⟩
theorem uf (he:ij w ls ld zs zd p q=0) :
 (ea w ls ld zs zd sure q (p+2).toNat≠0∧xA w ls ld zs zd sure p q=.tup [.nils,.int .i64 11]) ∨
 (ea w ls ld zs zd sure q (p+2).toNat=0∧((xA w ls ld zs zd sure p q=.tup [hY p,.int .i64 0]∧qj w ls ld zs zd sure p=[p])∨xA w ls ld zs zd sure p q=.tup [bn (qj w ls ld zs zd sure p).length (bE (qj w ls ld zs zd sure p)) false,.int .i64 0])):=by
 obtain ⟨h,h1,h2,h3⟩:=g7 he
 simp only[bx,Bool.and_eq_true,decide_eq_true_eq] at h1 h2
 have hj:=JA (sure:=sure) h h1
 have hm:q ∈ qj w ls ld zs zd sure p↔ea w ls ld zs zd sure q (p+2).toNat≠0:=by
  rw[o9 h1]
  constructor
  · rintro ⟨_,x⟩;have:=yI h h1 h2 x;omega
  · intro x
    have:=(mI (sure:=sure) h h2).rng (p+2).toNat
    exact ⟨h2,yI h h2 h1 (by omega)⟩
 unfold xA
 rw[if_neg (show ¬ (ij w ls ld zs zd p q≠0) from fun x=>x he)]
 have hg:Po (dR w ls ld zs zd) sure ls p=kT p (Ep w ls ld zs zd sure p):=rfl
 rw[hg] at hj
 rw[← hj] at hm ⊢
 generalize Ep w ls ld zs zd sure p=L at *
 have hi:Hm p q L=true↔q ∈ kT p L:=by
  cases L with
  | nil =>
    have:Hm p q []=decide (q=p):=rfl
    rw[this];simp[kT]
  | cons y r =>
    have:Hm p q (y::r)=iA (bE (kT p (y::r))) (kT p (y::r)).length q:=by rw[zO,xB];rfl
    rw[this,oh]
 by_cases hq:q ∈ kT p L
 · rw[if_pos (hi.2 hq)]
   exact .inl ⟨hm.1 hq,rfl⟩
 · rw[if_neg (fun x=>hq (hi.1 x))]
   refine .inr ⟨Decidable.not_not.1 (fun x=>hq (hm.2 x)),?_⟩
   cases L with
   | nil=>exact .inl ⟨rfl,rfl⟩
   | cons y r=>exact .inr (by rw[AW])
end
end Go.Eng
end
section
namespace Go.Eng
open Go.Proofs
set_option linter.unusedVariables false
set_option linter.unusedSimpArgs false
set_option maxRecDepth 100000
section
variable (n:Nat) (w:Int) (ls ld lb:Nat) (zs zd zb:Nat→Int) (H:ae) (a b c d:Int)
end
end Go.Eng
end
