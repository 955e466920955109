/- Bath: the table of points and baths as the program fills it (plain law). -/
import Derived.Test.YtigmfpmabgekoaaGreatV12EngSox7
import Derived.Test.YtigmfpmabgekoaaGreatV12EngRnFx3
import Derived.Test.YtigmfpmabgekoaaGreatV12EngTfx2
set_option linter.unusedVariables false
set_option linter.unusedSimpArgs false
section
namespace Go.Eng
structure MS where
 h:List Int→Bool
 g:List Int→Int
 c:Nat
 h2:List Int→Bool
 g2:List Int→Int
 c2:Nat
section
variable (a:Int→Int→Int)
def Jr (p f n:Int) (s:MS):Bool:=!s.h [p,n+1] || decide (s.g [p,n+1]<s.g [f,n]+a f p)
def nk (p f n:Int) (s:MS):MS :=
 if s.h [f,n]=true then
  if Jr a p f n s=true then
   ⟨dz s.h [p,n+1] true,fD s.g [p,n+1] (s.g [f,n]+a f p),pe (s.h [p,n+1]) s.c,
    dz (dz s.h2 [p,n+1] false) [p,n+1] true,fD (fD s.g2 [p,n+1] 0) [p,n+1] f,pe (dz s.h2 [p,n+1] false [p,n+1]) (yp (s.h2 [p,n+1]) s.c2)⟩
  else s
 else s
def ib (p f:Int):Nat→MS→MS
 | 0,s=>s
 | n+1,s=>nk a p f n (ib p f n s)
def mb (K:Nat) (p:Int):Nat→MS→MS
 | 0,s=>s
 | k+1,s=>ib a p ((k:Int)-1) K (mb K p k s)
def gl (K:Nat):Nat→MS→MS
 | 0,s=>s
 | p+1,s=>mb a K p (p+1) (gl K p s)
end
def cO:MS:=⟨dz (fun _=>false) [-1,0] true,fD (fun _=>0) [-1,0] 0,pe false 0,fun _=>false,fun _=>0,0⟩
section
variable {a:Int→Int→Int}
theorem wy {p f n:Int} {s:MS} {q m:Int} (h:¬(q=p∧m=n+1)):(nk a p f n s).h [q,m]=s.h [q,m]∧(nk a p f n s).g [q,m]=s.g [q,m]∧(nk a p f n s).g2 [q,m]=s.g2 [q,m]:=by
 have hne:([q,m]:List Int)≠[p,n+1]:=by simpa using h
 unfold nk
 split
 · split
   · simp only[dz,fD,if_neg hne];exact ⟨trivial,trivial,trivial⟩
   · exact ⟨rfl,rfl,rfl⟩
 · exact ⟨rfl,rfl,rfl⟩
theorem nF {p f q m:Int} {s:MS}:∀ n:Nat,¬(q=p∧1≤m∧m≤n)→(ib a p f n s).h [q,m]=s.h [q,m]∧(ib a p f n s).g [q,m]=s.g [q,m]∧(ib a p f n s).g2 [q,m]=s.g2 [q,m]
 | 0,_=>⟨rfl,rfl,rfl⟩
 | n+1,h=>by
   obtain ⟨i1,i2,i3⟩:=nF (p:=p) (f:=f) (q:=q) (m:=m) (s:=s) n (fun c=>h ⟨c.1,c.2.1,by omega⟩)
   obtain ⟨e1,e2,e3⟩:=wy (a:=a) (p:=p) (f:=f) (n:=n) (s:=ib a p f n s) (q:=q) (m:=m) (fun c=>h ⟨c.1,by omega,by omega⟩)
   exact ⟨e1.trans i1,e2.trans i2,e3.trans i3⟩
theorem K6 {p f n:Int} {s:MS} (hf:f<p):(s.h [f,n]=false→(nk a p f n s).h [p,n+1]=s.h [p,n+1]∧(nk a p f n s).g [p,n+1]=s.g [p,n+1]∧(nk a p f n s).g2 [p,n+1]=s.g2 [p,n+1]) ∧
 (s.h [f,n]=true→(nk a p f n s).h [p,n+1]=true∧((nk a p f n s).g [p,n+1]=s.g [f,n]+a f p∧(nk a p f n s).g2 [p,n+1]=f∧(s.h [p,n+1]=true→s.g [p,n+1]<s.g [f,n]+a f p) ∨
   s.h [p,n+1]=true∧(nk a p f n s).g [p,n+1]=s.g [p,n+1]∧(nk a p f n s).g2 [p,n+1]=s.g2 [p,n+1]∧s.g [f,n]+a f p≤s.g [p,n+1])):=by
 constructor
 · intro h
   unfold nk
   rw[if_neg (by rw[h];decide)]
   exact ⟨rfl,rfl,rfl⟩
 · intro h
   unfold nk
   rw[if_pos h]
   split
   · rename_i hb
     refine ⟨by simp[dz],.inl ⟨by simp[fD],by simp[fD],fun h2=>?_⟩⟩
     unfold Jr at hb
     rw[h2] at hb
     simpa using hb
   · rename_i hb
     have hb:Jr a p f n s=false:=by simpa using hb
     unfold Jr at hb
     rw[Bool.or_eq_false_iff,Bool.not_eq_false',decide_eq_false_iff_not] at hb
     exact ⟨hb.1,.inr ⟨hb.1,rfl,rfl,by omega⟩⟩
theorem GA {p f:Int} {s:MS} (hf:f<p):∀ (K n:Nat),n<K→(s.h [f,n]=false→(ib a p f K s).h [p,n+1]=s.h [p,n+1]∧(ib a p f K s).g [p,n+1]=s.g [p,n+1]∧(ib a p f K s).g2 [p,n+1]=s.g2 [p,n+1]) ∧
 (s.h [f,n]=true→(ib a p f K s).h [p,n+1]=true∧((ib a p f K s).g [p,n+1]=s.g [f,n]+a f p∧(ib a p f K s).g2 [p,n+1]=f∧(s.h [p,n+1]=true→s.g [p,n+1]<s.g [f,n]+a f p) ∨
   s.h [p,n+1]=true∧(ib a p f K s).g [p,n+1]=s.g [p,n+1]∧(ib a p f K s).g2 [p,n+1]=s.g2 [p,n+1]∧s.g [f,n]+a f p≤s.g [p,n+1]))
 | 0,n,h=>by omega
 | K + 1,n,h=>by
   by_cases e:n=K
   · subst e
     obtain ⟨k1,k2⟩:=K6 (a:=a) (p:=p) (f:=f) (n:=n) (s:=ib a p f n s) hf
     obtain ⟨o1,o2,o3⟩:=nF (a:=a) (p:=p) (f:=f) (q:=f) (m:=(n:Int)) (s:=s) n (fun c=>by omega)
     obtain ⟨u1,u2,u3⟩:=nF (a:=a) (p:=p) (f:=f) (q:=p) (m:=(n:Int)+1) (s:=s) n (fun c=>by omega)
     rw[o1,u1,u2,u3] at k1
     rw[o1,o2,u1,u2,u3] at k2
     exact ⟨k1,k2⟩
   · have ih:=GA hf (s:=s) K n (by omega)
     obtain ⟨e1,e2,e3⟩:=wy (a:=a) (p:=p) (f:=f) (n:=K) (s:=ib a p f K s) (q:=p) (m:=(n:Int)+1) (fun c=>by omega)
     show (_→(nk a p f K (ib a p f K s)).h _=_∧(nk a p f K (ib a p f K s)).g _=_∧(nk a p f K (ib a p f K s)).g2 _=_)∧(_→(nk a p f K (ib a p f K s)).h _=_∧((nk a p f K (ib a p f K s)).g _=_∧(nk a p f K (ib a p f K s)).g2 _=_∧_∨_∧(nk a p f K (ib a p f K s)).g _=_∧(nk a p f K (ib a p f K s)).g2 _=_∧_))
     rw[e1,e2,e3]
     exact ih
theorem nE {K:Nat} {p q m:Int} {s:MS} (h:¬(q=p∧1≤m∧m≤K)):∀ k:Nat,(mb a K p k s).h [q,m]=s.h [q,m]∧(mb a K p k s).g [q,m]=s.g [q,m]∧(mb a K p k s).g2 [q,m]=s.g2 [q,m]
 | 0=>⟨rfl,rfl,rfl⟩
 | k+1=>by
   obtain ⟨i1,i2,i3⟩:=nE (s:=s) h k
   obtain ⟨e1,e2,e3⟩:=nF (a:=a) (p:=p) (f:=(k:Int)-1) (q:=q) (m:=m) (s:=mb a K p k s) K h
   exact ⟨e1.trans i1,e2.trans i2,e3.trans i3⟩
theorem Bv {K:Nat} {p:Nat} {s:MS} {n:Nat} (hn:n<K) (h0:s.h [(p:Int),(n:Int)+1]=false):∀ k:Nat,k≤p+1 →
 ((mb a K p k s).h [(p:Int),(n:Int)+1]=true→∃ f:Int,-1≤f∧f<(k:Int)-1∧s.h [f,n]=true∧(mb a K p k s).g [(p:Int),(n:Int)+1]=s.g [f,n]+a f p∧(mb a K p k s).g2 [(p:Int),(n:Int)+1]=f) ∧
 ∀ f:Int,-1≤f→f<(k:Int)-1→s.h [f,n]=true→(mb a K p k s).h [(p:Int),(n:Int)+1]=true∧s.g [f,n]+a f p≤(mb a K p k s).g [(p:Int),(n:Int)+1]
 | 0,_=>⟨(fun h=>by
    have h:s.h [(p:Int),(n:Int)+1]=true:=h
    rw[h0] at h;cases h),(fun f h1 h2=>by omega)⟩
 | k + 1,hk=>by
   obtain ⟨i1,i2⟩:=Bv hn h0 k (by omega)
   obtain ⟨o1,o2,_⟩:=nE (a:=a) (K:=K) (p:=p) (q:=(k:Int)-1) (m:=(n:Int)) (s:=s) (fun c=>by omega) k
   obtain ⟨k1,k2⟩:=GA (a:=a) (p:=p) (f:=(k:Int)-1) (s:=mb a K p k s) (by omega) K n hn
   rw[o1] at k1 k2
   rw[o2] at k2
   have hkk:((k+1:Nat):Int)-1=(k:Int):=by omega
   rw[hkk]
   cases hc:s.h [(k:Int)-1,(n:Int)] with
   | false =>
     obtain ⟨e1,e2,e3⟩:=k1 hc
     show ((ib a p ((k:Int)-1) K (mb a K p k s)).h _=true→∃ f:Int,_∧_∧_∧(ib a p ((k:Int)-1) K (mb a K p k s)).g _=_∧(ib a p ((k:Int)-1) K (mb a K p k s)).g2 _=_)∧∀ f:Int,_→_→_→(ib a p ((k:Int)-1) K (mb a K p k s)).h _=true∧_≤(ib a p ((k:Int)-1) K (mb a K p k s)).g _
     rw[e1,e2,e3]
     refine ⟨fun h=>?_,fun f f1 f2 f3=>?_⟩
     · obtain ⟨f,f1,f2,f3⟩:=i1 h
       exact ⟨f,f1,by omega,f3⟩
     · refine i2 f f1 ?_ f3
       have:f≠(k:Int)-1:=fun e=>by rw[e,hc] at f3;cases f3
       omega
   | true =>
     obtain ⟨e1,e2⟩:=k2 hc
     show ((ib a p ((k:Int)-1) K (mb a K p k s)).h _=true→∃ f:Int,_∧_∧_∧(ib a p ((k:Int)-1) K (mb a K p k s)).g _=_∧(ib a p ((k:Int)-1) K (mb a K p k s)).g2 _=_)∧∀ f:Int,_→_→_→(ib a p ((k:Int)-1) K (mb a K p k s)).h _=true∧_≤(ib a p ((k:Int)-1) K (mb a K p k s)).g _
     rw[e1]
     rcases e2 with ⟨g1,g2,g3⟩ | ⟨g0,g1,g2,g3⟩
     · rw[g1,g2]
       refine ⟨fun _=>⟨(k:Int)-1,by omega,by omega,hc,rfl,rfl⟩,fun f f1 f2 f3=>⟨rfl,?_⟩⟩
       by_cases e:f=(k:Int)-1
       · rw[e];exact Int.le_refl _
       · obtain ⟨j1,j2⟩:=i2 f f1 (by omega) f3
         have:=g3 j1
         omega
     · rw[g1,g2]
       refine ⟨fun _=>?_,fun f f1 f2 f3=>⟨rfl,?_⟩⟩
       · obtain ⟨f,f1,f2,f3⟩:=i1 g0
         exact ⟨f,f1,by omega,f3⟩
       · by_cases e:f=(k:Int)-1
         · rw[e];exact g3
         · exact (i2 f f1 (by omega) f3).2
theorem Bw {K:Nat}:∀ m:Nat,
 (∀ q n:Int,(gl a K m cO).h [q,n]=true→(q=-1∧n=0)∨(0≤q∧q<m∧1≤n∧n≤K))∧((gl a K m cO).h [-1,0]=true∧(gl a K m cO).g [-1,0]=0) ∧
 (∀ p n:Nat,p<m→n<K→(gl a K m cO).h [(p:Int),(n:Int)+1]=true→∃ f:Int,-1≤f∧f<p∧(gl a K m cO).h [f,n]=true∧(gl a K m cO).g [(p:Int),(n:Int)+1]=(gl a K m cO).g [f,n]+a f p∧(gl a K m cO).g2 [(p:Int),(n:Int)+1]=f) ∧
 ∀ (f:Int) (p n:Nat),p<m→n<K→-1≤f→f<p→(gl a K m cO).h [f,n]=true→(gl a K m cO).h [(p:Int),(n:Int)+1]=true∧(gl a K m cO).g [f,n]+a f p≤(gl a K m cO).g [(p:Int),(n:Int)+1]
 | 0=>by
   refine ⟨fun q n h=>?_,⟨rfl,rfl⟩,fun p n hp=>by omega,fun f p n hp=>by omega⟩
   have h:dz (fun _=>false) [-1,0] true [q,n]=true:=h
   unfold dz at h
   split at h
   · rename_i e;simp at e;exact .inl e
   · cases h
 | m + 1 => by
   obtain ⟨i1,i2,i3,i4⟩:=Bw (K:=K) m
   have oth:∀ q n:Int,q≠m→(gl a K (m+1) cO).h [q,n]=(gl a K m cO).h [q,n]∧(gl a K (m+1) cO).g [q,n]=(gl a K m cO).g [q,n]∧(gl a K (m+1) cO).g2 [q,n]=(gl a K m cO).g2 [q,n]:=fun q n hq=>nE (fun c=>hq c.1) (m+1)
   have abs:∀ n:Int,(gl a K m cO).h [(m:Int),n]=false:=fun n=>by
    cases h:(gl a K m cO).h [(m:Int),n] with
    | false=>rfl
    | true=>rcases i1 _ _ h with ⟨a,_⟩ | ⟨_,a,_⟩<;>omega
   refine ⟨fun q n h=>?_,?_,fun p n hp hn h=>?_,fun f p n hp hn f1 f2 h=>?_⟩
   · by_cases e:q=m
     · subst e
       by_cases hn:1≤n∧n≤K
       · exact .inr ⟨by omega,by omega,hn.1,hn.2⟩
       · have:=(nE (a:=a) (K:=K) (p:=m) (q:=m) (m:=n) (s:=gl a K m cO) (fun c=>hn c.2) (m+1)).1
         have h:(mb a K m (m+1) (gl a K m cO)).h [(m:Int),n]=true:=h
         rw[this,abs] at h;cases h
     · rw[(oth q n e).1] at h
       rcases i1 q n h with h | h
       · exact .inl h
       · exact .inr (by omega)
   · rw[(oth (-1) 0 (by omega)).1,(oth (-1) 0 (by omega)).2.1];exact i2
   · by_cases e:p=m
     · subst e
       obtain ⟨f,f1,f2,f3,f4,f5⟩:=(Bv (a:=a) (K:=K) (p:=p) (s:=gl a K p cO) hn (abs _) (p+1) (Nat.le_refl _)).1 h
       refine ⟨f,f1,by omega,?_,?_,f5⟩
       · rw[(oth f n (by omega)).1];exact f3
       · rw[(oth f n (by omega)).2.1];exact f4
     · rw[(oth p _ (by omega)).1] at h
       obtain ⟨f,f1,f2,f3,f4,f5⟩:=i3 p n (by omega) hn h
       refine ⟨f,f1,f2,?_,?_,?_⟩
       · rw[(oth f n (by omega)).1];exact f3
       · rw[(oth f n (by omega)).2.1,(oth p _ (by omega)).2.1];exact f4
       · rw[(oth p _ (by omega)).2.2];exact f5
   · rw[(oth f n (by omega)).1] at h
     rw[(oth f n (by omega)).2.1]
     by_cases e:p=m
     · subst e
       exact (Bv (a:=a) (K:=K) (p:=p) (s:=gl a K p cO) hn (abs _) (p+1) (Nat.le_refl _)).2 f f1 (by omega) h
     · rw[(oth p _ (by omega)).1,(oth p _ (by omega)).2.1]
       exact i4 f p n (by omega) hn f1 f2 h
end
def yf (N:Nat) (lo hi w:Nat→Int) (P:Nat→Int) (f p:Int):Int:=Le N lo hi w (if f=-1 then fun _=>false else ke lo hi (P f.toNat)) (P p.toNat)
theorem K5 (N:Nat) (lo hi w:Nat→Int) (P:Nat→Int) (m K:Nat):Tb N lo hi w P m K (fun p n=>(gl (yf N lo hi w P) K m cO).h [p,n]) (fun p n=>(gl (yf N lo hi w P) K m cO).g [p,n]) (fun p n=>(gl (yf N lo hi w P) K m cO).g2 [p,n]):=by
 obtain ⟨i1,i2,i3,i4⟩:=Bw (a:=yf N lo hi w P) (K:=K) m
 refine ⟨i2,fun p n h=>?_,fun f p n f1 f2 hp hn h=>?_⟩
 · rcases i1 p n h with h | ⟨h1,h2,h3,h4⟩
   · exact .inl ⟨h.1,by omega⟩
   · obtain ⟨q,rfl⟩:=Int.eq_ofNat_of_zero_le h1
     obtain ⟨n,rfl⟩:∃ k,n=k+1:=⟨n-1,by omega⟩
     have h:(gl (yf N lo hi w P) K m cO).h [(q:Int),(n:Int)+1]=true:=h
     obtain ⟨f,f1,f2,f3,f4,f5⟩:=i3 q n (by omega) (by omega) h
     refine .inr ⟨h1,h2,by omega,by omega,?_⟩
     have e1:((n+1:Nat):Int)=(n:Int)+1:=rfl
     simp only[e1,Nat.add_sub_cancel]
     rw[f5]
     exact ⟨f1,f2,f3,f4⟩
 · exact i4 f p n hp hn f1 f2 h
theorem Er {N:Nat} {lo hi w:Nat→Int} {P:Nat→Int} (hw:∀ i,i<N→0≤w i) (f p:Int):0≤yf N lo hi w P f p∧yf N lo hi w P f p≤ku w N :=
 ⟨Gx N (fun i hi2=>by have:=hw i hi2;split<;>omega),Bu N (fun i hi2=>by have:=hw i hi2;split<;>omega)⟩
def GU (W:Int) (s:MS):Prop:=∀ q n:Int,s.h [q,n]=true→0≤n∧0≤s.g [q,n]∧s.g [q,n]≤n*W
theorem Ot {a:Int→Int→Int} {W:Int} (ha:∀ f p,0≤a f p∧a f p≤W) {p f n:Int} {s:MS} (h:GU W s):GU W (nk a p f n s):=by
 by_cases h1:s.h [f,n]=true
 · by_cases h2:Jr a p f n s=true
   · unfold nk
     rw[if_pos h1,if_pos h2]
     intro q k hq
     dsimp only at hq ⊢
     by_cases e:([q,k]:List Int)=[p,n+1]
     · unfold fD
       rw[if_pos e]
       simp at e
       obtain ⟨k1,k2,k3⟩:=h f n h1
       have:=ha f p
       rw[e.2,Int.add_mul,Int.one_mul]
       omega
     · unfold dz at hq
       unfold fD
       rw[if_neg e] at hq ⊢
       exact h q k hq
   · unfold nk
     rw[if_pos h1,if_neg h2]
     exact h
 · unfold nk
   rw[if_neg h1]
   exact h
theorem JQ {a:Int→Int→Int} {W:Int} (ha:∀ f p,0≤a f p∧a f p≤W) {p f:Int} {s:MS} (h:GU W s):∀ n,GU W (ib a p f n s)
 | 0=>h
 | n+1=>Ot ha (JQ ha h n)
theorem JP {a:Int→Int→Int} {W:Int} (ha:∀ f p,0≤a f p∧a f p≤W) {K:Nat} {p:Int} {s:MS} (h:GU W s):∀ k,GU W (mb a K p k s)
 | 0=>h
 | k+1=>JQ ha (JP ha h k) K
theorem JR {a:Int→Int→Int} {W:Int} (ha:∀ f p,0≤a f p∧a f p≤W) {K:Nat}:∀ m,GU W (gl a K m cO)
 | 0 => fun q n h=>by
   have h':dz (fun _=>false) [-1,0] true [q,n]=true:=h
   unfold dz at h'
   split at h'
   · rename_i e
     simp at e
     rw[e.1,e.2]
     exact ⟨Int.le_refl _,Int.le_refl _,by rw[Int.zero_mul];exact Int.le_refl _⟩
   · cases h'
 | m+1=>JP ha (JR ha m) (m+1)
end Go.Eng
end
section
namespace Go.Eng
def uO (g:List Int→Int) (x y:Int×Int):Bool:=decide (g [y.1,y.2]<g [x.1,x.2]) || (decide (g [x.1,x.2]=g [y.1,y.2]) && (decide (x.2<y.2) || (decide (x.2=y.2) && decide (x.1<y.1))))
def BS (g:List Int→Int):List (Int×Int)→Int×Int→Int×Int
 | [],b=>b
 | s::r,b=>BS g r (if uO g s b=true then s else b)
section
variable {g:List Int→Int}
theorem nq {x y:Int×Int}:uO g x y=true↔g [y.1,y.2]<g [x.1,x.2]∨g [x.1,x.2]=g [y.1,y.2]∧(x.2<y.2∨x.2=y.2∧x.1<y.1):=by
 unfold uO
 simp only[Bool.or_eq_true,Bool.and_eq_true,decide_eq_true_eq]
theorem sR {x y:Int×Int}:uO g x y=false↔¬(g [y.1,y.2]<g [x.1,x.2]∨g [x.1,x.2]=g [y.1,y.2]∧(x.2<y.2∨x.2=y.2∧x.1<y.1)):=by
 rw[← nq];simp
theorem BV {x y:Int×Int} (h:uO g x y=false) (h':uO g y x=false):x=y:=by
 rw[sR] at h h'
 have h1:x.1=y.1∧x.2=y.2:=by omega
 exact Prod.ext h1.1 h1.2
theorem EG (x:Int×Int):uO g x x=false:=by rw[sR];omega
theorem EH {x y z:Int×Int} (h:uO g y x=false) (h':uO g z y=false):uO g z x=false:=by
 rw[sR] at h h' ⊢
 omega
theorem mz:∀ (ks:List (Int×Int)) (b:Int×Int),(BS g ks b=b∨BS g ks b ∈ ks)∧∀ s,s=b∨s ∈ ks→uO g s (BS g ks b)=false
 | [],b=>⟨.inl rfl,fun s h=>by
   rcases h with rfl | h
   · exact EG _
   · cases h⟩
 | k :: ks,b=>by
   show (BS g ks (if uO g k b=true then k else b)=b∨BS g ks (if uO g k b=true then k else b) ∈ k::ks)∧∀ s,s=b∨s ∈ k::ks→uO g s (BS g ks (if uO g k b=true then k else b))=false
   by_cases c:uO g k b=true
   · rw[if_pos c]
     obtain ⟨i1,i2⟩:=mz ks k
     refine ⟨.inr ?_,fun s h=>?_⟩
     · rcases i1 with h | h
       · rw[h];exact List.mem_cons_self
       · exact List.mem_cons_of_mem _ h
     · rcases h with rfl | h
       · refine EH (i2 k (.inl rfl)) ?_
         rw[nq] at c
         rw[sR]
         omega
       · rcases List.mem_cons.1 h with rfl | h
         · exact i2 _ (.inl rfl)
         · exact i2 _ (.inr h)
   · rw[if_neg c]
     obtain ⟨i1,i2⟩:=mz ks b
     refine ⟨?_,fun s h=>?_⟩
     · rcases i1 with h | h
       · exact .inl h
       · exact .inr (List.mem_cons_of_mem _ h)
     · rcases h with rfl | h
       · exact i2 _ (.inl rfl)
       · rcases List.mem_cons.1 h with rfl | h
         · exact EH (i2 b (.inl rfl)) (by simpa using c)
         · exact i2 _ (.inr h)
end
def oV (b:Int→Nat→Int) (n:Nat) (p:Int):Nat→Int
 | 0=>p
 | j+1=>b (oV b n p j) (n-j)
theorem wD (b:Int→Nat→Int) (n:Nat) (p:Int):∀ j,oV b (n+1) p (j+1)=oV b n (b p (n+1)) j
 | 0=>rfl
 | j+1=>by
   show b (oV b (n+1) p (j+1)) (n+1-(j+1))=b (oV b n (b p (n+1)) j) (n-j)
   rw[wD b n p j,show n+1-(j+1)=n-j by omega]
theorem GJ (P:Nat→Int) (b:Int→Nat→Int):∀ (n:Nat) (p:Int) (i:Nat),i<n→(AA P b n p).getD i 0=P (oV b n p (n-1-i)).toNat
 | 0,p,i,h=>by omega
 | n + 1,p,i,h=>by
   show (AA P b n (b p (n+1))++[P p.toNat]).getD i 0=_
   have hl:=lY P b n (b p (n+1))
   rw[List.getD_eq_getElem?_getD]
   by_cases e:i<n
   · rw[List.getElem?_append_left (by omega),← List.getD_eq_getElem?_getD,GJ P b n _ i e]
     rw[show n+1-1-i=(n-1-i)+1 by omega,wD]
   · obtain rfl:i=n:=by omega
     rw[List.getElem?_append_right (by omega),hl,Nat.sub_self,show i+1-1-i=0 by omega]
     rfl
theorem Bz {N:Nat} {lo hi w:Nat→Int} {P:Nat→Int} {m K:Nat} {h:Int→Nat→Bool} {g:Int→Nat→Int} {b:Int→Nat→Int} (t:Tb N lo hi w P m K h g b) {p:Int} {n:Nat} (hp:h p n=true):∀ j,j≤n→h (oV b n p j) (n-j)=true∧(j<n→0≤oV b n p j∧oV b n p j<m)
 | 0,_=>⟨hp,fun hj=>by
   rcases t.from_ p n hp with ⟨_,a⟩ | ⟨a,a2,_⟩
   · omega
   · exact ⟨a,a2⟩⟩
 | j + 1,hj=>by
   obtain ⟨i1,_⟩:=Bz t hp j (by omega)
   rcases t.from_ _ _ i1 with ⟨_,a⟩ | ⟨_,_,_,_,_,_,k,_⟩
   · omega
   · have k:h (oV b n p (j+1)) (n-j-1)=true:=k
     rw[show n-j-1=n-(j+1) by omega] at k
     refine ⟨k,fun hj2=>?_⟩
     rcases t.from_ _ _ k with ⟨_,a⟩ | ⟨a,a2,_⟩
     · omega
     · exact ⟨a,a2⟩
theorem GD {N:Nat} {lo hi w:Nat→Int} {P:Nat→Int} {m K:Nat} {h:Int→Nat→Bool} {g:Int→Nat→Int} {b:Int→Nat→Int} (t:Tb N lo hi w P m K h g b) {p:Int} {n:Nat} (hp:h p n=true):oV b n p n=-1:=by
 have:=(Bz t hp n (Nat.le_refl _)).1
 rw[Nat.sub_self] at this
 exact x8 t this
end Go.Eng
end
section
namespace Go.Eng

def Kp (b:Bool) (v:AV):Bool :=
 match v with
 | .bool c=>cond b c (cond c false true)
 | _=>false
theorem Ck (b:Bool) (v:AV):Kp b v=L8 b v:=by
 cases v with
 | bool c=>cases b<;>cases c<;>rfl
 | _=>rfl
noncomputable def bk.oM (L:bk) (cx:Cx) (callR:bF) (bl:ie) (rg:sF) (k n:Nat) (kv:AV×AV) (fr:aT) (H:aa):Tr (aT×aa) :=
 (iY cx.P cx.nt cx.call callR L.ops1 L.t1 (rK cx.nt fr (some L.nx) (.tup [.bool true,kv.1,kv.2],none)) H).bind fun x =>
   cond (Kp true (l9 x.1 L.mo).1) (cond (lI k (l9 x.1 L.it).1)
    ((iY cx.P cx.nt cx.call callR L.ops2 L.t2 (rK cx.nt x.1 (some L.en) (.tup [kv.1,kv.2],none)) x.2).bind fun y =>
      (aN cx callR bl rg L.rest y.1 y.2).bind fun z=>match z with
        | (.normal,fr,H)=>cond (lI k (l9 (gS fr L.km) L.it).1) (.ok (gS fr L.km,l5 n (strip (gS fr L.km)) H)) .bad
        | _=>.bad) .bad) .bad
theorem bk.D3 {L:bk} {cx:Cx} {callR:bF} {bl:ie} {rg:sF} (hC:callR.Ok cx.call) (hB:bl.Ok cx L.rest) (hR:rg.Ok cx L.rest) {k n:Nat} {kv:AV×AV} {fr:aT} {H:aa} {y:aT×aa} (h:(L.oM cx callR bl rg k n kv fr H).run=some y) :
 L.round cx k n kv (strip fr) H=some (strip y.1,y.2):=by
 unfold bk.oM at h
 obtain ⟨x,h1,h⟩:=Tr.bind_some h
 obtain ⟨b1,h⟩:=Tr.aV h
 obtain ⟨b2,h⟩:=Tr.aV h
 obtain ⟨z,h2,h⟩:=Tr.bind_some h
 obtain ⟨u,h3,h⟩:=Tr.bind_some h
 have h1:=fP hC _ _ _ _ h1
 have h2:=fP hC _ _ _ _ h2
 have h3:=mG hC L.rest hB hR _ _ _ h3
 rw[na] at h1 h2
 rw[Ck,fy] at b1
 rw[fy] at b2
 unfold bk.round
 rw[b7,h1]
 dsimp only
 rw[b1,b2,Bool.and_self,if_pos rfl,b7,h2]
 dsimp only
 rw[dk,h3]
 obtain ⟨e,f,G⟩:=u
 cases e with
 | normal =>
   dsimp only at h
   obtain ⟨b3,h⟩:=Tr.aV h
   rw[fy,fg] at b3
   show (if lI k (br (bO (strip f) L.km) L.it) then _ else none)=_
   rw[if_pos b3,← Tr.ab h,fg]
 | _=>exact (Tr.ae h).elim
noncomputable def bk.zf (L:bk) (cx:Cx) (callR:bF) (fr:aT) (H:aa):Tr (aT×aa) :=
 (iY cx.P cx.nt cx.call callR L.ops1 L.t1 (rK cx.nt fr (some L.nx) (.tup [.bool false],none)) H).bind fun x=>cond (Kp false (l9 x.1 L.mo).1) (.ok x) .bad
theorem bk.FF {L:bk} {cx:Cx} {callR:bF} (hC:callR.Ok cx.call) {fr:aT} {H:aa} {y:aT×aa} (h:(L.zf cx callR fr H).run=some y):L.last cx (strip fr) H=some (strip y.1,y.2):=by
 unfold bk.zf at h
 obtain ⟨x,h1,h⟩:=Tr.bind_some h
 obtain ⟨b1,h⟩:=Tr.aV h
 have h1:=fP hC _ _ _ _ h1
 rw[na] at h1
 rw[Ck,fy] at b1
 unfold bk.last
 rw[b7,h1]
 dsimp only
 rw[if_pos b1,← Tr.ab h]
noncomputable def bC.Bi (S:bC) (cx:Cx) (callR:bF) (fr:aT) (H:aa):Tr (aT×aa):=iY cx.P cx.nt cx.call callR S.ops0 S.pre fr H
theorem bC.sw {S:bC} {cx:Cx} {callR:bF} (hC:callR.Ok cx.call) {fr:aT} {H:aa} {y:aT×aa} (h:(S.Bi cx callR fr H).run=some y):cL cx.P cx.nt cx.call S.ops0 S.pre (strip fr) H=some (strip y.1,y.2):=by
 rw[b7]
 exact fP hC _ _ _ _ h
end Go.Eng
end
