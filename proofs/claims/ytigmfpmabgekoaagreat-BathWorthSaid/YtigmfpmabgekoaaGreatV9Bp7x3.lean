/- Bath: the table of points and baths as the program fills it (plain law). -/
import Derived.Test.YtigmfpmabgekoaaGreatV9EngPostx6
import Derived.Test.YtigmfpmabgekoaaGreatV9EngRnFx3
import Derived.Test.YtigmfpmabgekoaaGreatV9EngTfx2
set_option linter.unusedVariables false
set_option linter.unusedSimpArgs false
section
namespace Go.Eng
structure MS where
 h:List Int→Bool
 g:List Int→Int
 c:Nat
 h2:List Int→Bool
 g2:List Int→Int
 c2:Nat
section
variable (a:Int→Int→Int)
def I8 (p f n:Int) (s:MS):Bool:=!s.h [p,n+1] || decide (s.g [p,n+1]<s.g [f,n]+a f p)
def m4 (p f n:Int) (s:MS):MS :=
 if s.h [f,n]=true then
  if I8 a p f n s=true then
   ⟨dE s.h [p,n+1] true,fF s.g [p,n+1] (s.g [f,n]+a f p),o9 (s.h [p,n+1]) s.c,
    dE (dE s.h2 [p,n+1] false) [p,n+1] true,fF (fF s.g2 [p,n+1] 0) [p,n+1] f,o9 (dE s.h2 [p,n+1] false [p,n+1]) (yr (s.h2 [p,n+1]) s.c2)⟩
  else s
 else s
def g6 (p f:Int):Nat→MS→MS
 | 0,s=>s
 | n+1,s=>m4 a p f n (g6 p f n s)
def lX (K:Nat) (p:Int):Nat→MS→MS
 | 0,s=>s
 | k+1,s=>g6 a p ((k:Int)-1) K (lX K p k s)
def gf (K:Nat):Nat→MS→MS
 | 0,s=>s
 | p+1,s=>lX a K p (p+1) (gf K p s)
end
def cV:MS:=⟨dE (fun _=>false) [-1,0] true,fF (fun _=>0) [-1,0] 0,o9 false 0,fun _=>false,fun _=>0,0⟩
section
variable {a:Int→Int→Int}
theorem wG {p f n:Int} {s:MS} {q m:Int} (h:¬(q=p∧m=n+1)):(m4 a p f n s).h [q,m]=s.h [q,m]∧(m4 a p f n s).g [q,m]=s.g [q,m]∧(m4 a p f n s).g2 [q,m]=s.g2 [q,m]:=by
 have hne:([q,m]:List Int)≠[p,n+1]:=by simpa using h
 unfold m4
 split
 · split
   · simp only[dE,fF,if_neg hne];exact ⟨trivial,trivial,trivial⟩
   · exact ⟨rfl,rfl,rfl⟩
 · exact ⟨rfl,rfl,rfl⟩
theorem nr {p f q m:Int} {s:MS}:∀ n:Nat,¬(q=p∧1≤m∧m≤n)→(g6 a p f n s).h [q,m]=s.h [q,m]∧(g6 a p f n s).g [q,m]=s.g [q,m]∧(g6 a p f n s).g2 [q,m]=s.g2 [q,m]
 | 0,_=>⟨rfl,rfl,rfl⟩
 | n+1,h=>by
   obtain ⟨i1,i2,i3⟩:=nr (p:=p) (f:=f) (q:=q) (m:=m) (s:=s) n (fun c=>h ⟨c.1,c.2.1,by omega⟩)
   obtain ⟨e1,e2,e3⟩:=wG (a:=a) (p:=p) (f:=f) (n:=n) (s:=g6 a p f n s) (q:=q) (m:=m) (fun c=>h ⟨c.1,by omega,by omega⟩)
   exact ⟨e1.trans i1,e2.trans i2,e3.trans i3⟩
theorem KQ {p f n:Int} {s:MS} (hf:f<p):(s.h [f,n]=false→(m4 a p f n s).h [p,n+1]=s.h [p,n+1]∧(m4 a p f n s).g [p,n+1]=s.g [p,n+1]∧(m4 a p f n s).g2 [p,n+1]=s.g2 [p,n+1]) ∧
 (s.h [f,n]=true→(m4 a p f n s).h [p,n+1]=true∧((m4 a p f n s).g [p,n+1]=s.g [f,n]+a f p∧(m4 a p f n s).g2 [p,n+1]=f∧(s.h [p,n+1]=true→s.g [p,n+1]<s.g [f,n]+a f p) ∨
   s.h [p,n+1]=true∧(m4 a p f n s).g [p,n+1]=s.g [p,n+1]∧(m4 a p f n s).g2 [p,n+1]=s.g2 [p,n+1]∧s.g [f,n]+a f p≤s.g [p,n+1])):=by
 constructor
 · intro h
   unfold m4
   rw[if_neg (by rw[h];decide)]
   exact ⟨rfl,rfl,rfl⟩
 · intro h
   unfold m4
   rw[if_pos h]
   split
   · rename_i hb
     refine ⟨by simp[dE],.inl ⟨by simp[fF],by simp[fF],fun h2=>?_⟩⟩
     unfold I8 at hb
     rw[h2] at hb
     simpa using hb
   · rename_i hb
     have hb:I8 a p f n s=false:=by simpa using hb
     unfold I8 at hb
     rw[Bool.or_eq_false_iff,Bool.not_eq_false',decide_eq_false_iff_not] at hb
     exact ⟨hb.1,.inr ⟨hb.1,rfl,rfl,by omega⟩⟩
theorem Gf {p f:Int} {s:MS} (hf:f<p):∀ (K n:Nat),n<K→(s.h [f,n]=false→(g6 a p f K s).h [p,n+1]=s.h [p,n+1]∧(g6 a p f K s).g [p,n+1]=s.g [p,n+1]∧(g6 a p f K s).g2 [p,n+1]=s.g2 [p,n+1]) ∧
 (s.h [f,n]=true→(g6 a p f K s).h [p,n+1]=true∧((g6 a p f K s).g [p,n+1]=s.g [f,n]+a f p∧(g6 a p f K s).g2 [p,n+1]=f∧(s.h [p,n+1]=true→s.g [p,n+1]<s.g [f,n]+a f p) ∨
   s.h [p,n+1]=true∧(g6 a p f K s).g [p,n+1]=s.g [p,n+1]∧(g6 a p f K s).g2 [p,n+1]=s.g2 [p,n+1]∧s.g [f,n]+a f p≤s.g [p,n+1]))
 | 0,n,h=>by omega
 | K + 1,n,h=>by
   by_cases e:n=K
   · subst e
     obtain ⟨k1,k2⟩:=KQ (a:=a) (p:=p) (f:=f) (n:=n) (s:=g6 a p f n s) hf
     obtain ⟨o1,o2,o3⟩:=nr (a:=a) (p:=p) (f:=f) (q:=f) (m:=(n:Int)) (s:=s) n (fun c=>by omega)
     obtain ⟨u1,u2,u3⟩:=nr (a:=a) (p:=p) (f:=f) (q:=p) (m:=(n:Int)+1) (s:=s) n (fun c=>by omega)
     rw[o1,u1,u2,u3] at k1
     rw[o1,o2,u1,u2,u3] at k2
     exact ⟨k1,k2⟩
   · have ih:=Gf hf (s:=s) K n (by omega)
     obtain ⟨e1,e2,e3⟩:=wG (a:=a) (p:=p) (f:=f) (n:=K) (s:=g6 a p f K s) (q:=p) (m:=(n:Int)+1) (fun c=>by omega)
     show (_→(m4 a p f K (g6 a p f K s)).h _=_∧(m4 a p f K (g6 a p f K s)).g _=_∧(m4 a p f K (g6 a p f K s)).g2 _=_)∧(_→(m4 a p f K (g6 a p f K s)).h _=_∧((m4 a p f K (g6 a p f K s)).g _=_∧(m4 a p f K (g6 a p f K s)).g2 _=_∧_∨_∧(m4 a p f K (g6 a p f K s)).g _=_∧(m4 a p f K (g6 a p f K s)).g2 _=_∧_))
     rw[e1,e2,e3]
     exact ih
theorem nq {K:Nat} {p q m:Int} {s:MS} (h:¬(q=p∧1≤m∧m≤K)):∀ k:Nat,(lX a K p k s).h [q,m]=s.h [q,m]∧(lX a K p k s).g [q,m]=s.g [q,m]∧(lX a K p k s).g2 [q,m]=s.g2 [q,m]
 | 0=>⟨rfl,rfl,rfl⟩
 | k+1=>by
   obtain ⟨i1,i2,i3⟩:=nq (s:=s) h k
   obtain ⟨e1,e2,e3⟩:=nr (a:=a) (p:=p) (f:=(k:Int)-1) (q:=q) (m:=m) (s:=lX a K p k s) K h
   exact ⟨e1.trans i1,e2.trans i2,e3.trans i3⟩
theorem Bp {K:Nat} {p:Nat} {s:MS} {n:Nat} (hn:n<K) (h0:s.h [(p:Int),(n:Int)+1]=false):∀ k:Nat,k≤p+1 →
 ((lX a K p k s).h [(p:Int),(n:Int)+1]=true→∃ f:Int,-1≤f∧f<(k:Int)-1∧s.h [f,n]=true∧(lX a K p k s).g [(p:Int),(n:Int)+1]=s.g [f,n]+a f p∧(lX a K p k s).g2 [(p:Int),(n:Int)+1]=f) ∧
 ∀ f:Int,-1≤f→f<(k:Int)-1→s.h [f,n]=true→(lX a K p k s).h [(p:Int),(n:Int)+1]=true∧s.g [f,n]+a f p≤(lX a K p k s).g [(p:Int),(n:Int)+1]
 | 0,_=>⟨(fun h=>by
    have h:s.h [(p:Int),(n:Int)+1]=true:=h
    rw[h0] at h;cases h),(fun f h1 h2=>by omega)⟩
 | k + 1,hk=>by
   obtain ⟨i1,i2⟩:=Bp hn h0 k (by omega)
   obtain ⟨o1,o2,_⟩:=nq (a:=a) (K:=K) (p:=p) (q:=(k:Int)-1) (m:=(n:Int)) (s:=s) (fun c=>by omega) k
   obtain ⟨k1,k2⟩:=Gf (a:=a) (p:=p) (f:=(k:Int)-1) (s:=lX a K p k s) (by omega) K n hn
   rw[o1] at k1 k2
   rw[o2] at k2
   have hkk:((k+1:Nat):Int)-1=(k:Int):=by omega
   rw[hkk]
   cases hc:s.h [(k:Int)-1,(n:Int)] with
   | false =>
     obtain ⟨e1,e2,e3⟩:=k1 hc
     show ((g6 a p ((k:Int)-1) K (lX a K p k s)).h _=true→∃ f:Int,_∧_∧_∧(g6 a p ((k:Int)-1) K (lX a K p k s)).g _=_∧(g6 a p ((k:Int)-1) K (lX a K p k s)).g2 _=_)∧∀ f:Int,_→_→_→(g6 a p ((k:Int)-1) K (lX a K p k s)).h _=true∧_≤(g6 a p ((k:Int)-1) K (lX a K p k s)).g _
     rw[e1,e2,e3]
     refine ⟨fun h=>?_,fun f f1 f2 f3=>?_⟩
     · obtain ⟨f,f1,f2,f3⟩:=i1 h
       exact ⟨f,f1,by omega,f3⟩
     · refine i2 f f1 ?_ f3
       have:f≠(k:Int)-1:=fun e=>by rw[e,hc] at f3;cases f3
       omega
   | true =>
     obtain ⟨e1,e2⟩:=k2 hc
     show ((g6 a p ((k:Int)-1) K (lX a K p k s)).h _=true→∃ f:Int,_∧_∧_∧(g6 a p ((k:Int)-1) K (lX a K p k s)).g _=_∧(g6 a p ((k:Int)-1) K (lX a K p k s)).g2 _=_)∧∀ f:Int,_→_→_→(g6 a p ((k:Int)-1) K (lX a K p k s)).h _=true∧_≤(g6 a p ((k:Int)-1) K (lX a K p k s)).g _
     rw[e1]
     rcases e2 with ⟨g1,g2,g3⟩ | ⟨g0,g1,g2,g3⟩
     · rw[g1,g2]
       refine ⟨fun _=>⟨(k:Int)-1,by omega,by omega,hc,rfl,rfl⟩,fun f f1 f2 f3=>⟨rfl,?_⟩⟩
       by_cases e:f=(k:Int)-1
       · rw[e];exact Int.le_refl _
       · obtain ⟨j1,j2⟩:=i2 f f1 (by omega) f3
         have:=g3 j1
         omega
     · rw[g1,g2]
       refine ⟨fun _=>?_,fun f f1 f2 f3=>⟨rfl,?_⟩⟩
       · obtain ⟨f,f1,f2,f3⟩:=i1 g0
         exact ⟨f,f1,by omega,f3⟩
       · by_cases e:f=(k:Int)-1
         · rw[e];exact g3
         · exact (i2 f f1 (by omega) f3).2
theorem Bq {K:Nat}:∀ m:Nat,
 (∀ q n:Int,(gf a K m cV).h [q,n]=true→(q=-1∧n=0)∨(0≤q∧q<m∧1≤n∧n≤K))∧((gf a K m cV).h [-1,0]=true∧(gf a K m cV).g [-1,0]=0) ∧
 (∀ p n:Nat,p<m→n<K→(gf a K m cV).h [(p:Int),(n:Int)+1]=true→∃ f:Int,-1≤f∧f<p∧(gf a K m cV).h [f,n]=true∧(gf a K m cV).g [(p:Int),(n:Int)+1]=(gf a K m cV).g [f,n]+a f p∧(gf a K m cV).g2 [(p:Int),(n:Int)+1]=f) ∧
 ∀ (f:Int) (p n:Nat),p<m→n<K→-1≤f→f<p→(gf a K m cV).h [f,n]=true→(gf a K m cV).h [(p:Int),(n:Int)+1]=true∧(gf a K m cV).g [f,n]+a f p≤(gf a K m cV).g [(p:Int),(n:Int)+1]
 | 0=>by
   refine ⟨fun q n h=>?_,⟨rfl,rfl⟩,fun p n hp=>by omega,fun f p n hp=>by omega⟩
   have h:dE (fun _=>false) [-1,0] true [q,n]=true:=h
   unfold dE at h
   split at h
   · rename_i e;simp at e;exact .inl e
   · cases h
 | m + 1 => by
   obtain ⟨i1,i2,i3,i4⟩:=Bq (K:=K) m
   have oth:∀ q n:Int,q≠m→(gf a K (m+1) cV).h [q,n]=(gf a K m cV).h [q,n]∧(gf a K (m+1) cV).g [q,n]=(gf a K m cV).g [q,n]∧(gf a K (m+1) cV).g2 [q,n]=(gf a K m cV).g2 [q,n]:=fun q n hq=>nq (fun c=>hq c.1) (m+1)
   have abs:∀ n:Int,(gf a K m cV).h [(m:Int),n]=false:=fun n=>by
    cases h:(gf a K m cV).h [(m:Int),n] with
    | false=>rfl
    | true=>rcases i1 _ _ h with ⟨a,_⟩ | ⟨_,a,_⟩<;>omega
   refine ⟨fun q n h=>?_,?_,fun p n hp hn h=>?_,fun f p n hp hn f1 f2 h=>?_⟩
   · by_cases e:q=m
     · subst e
       by_cases hn:1≤n∧n≤K
       · exact .inr ⟨by omega,by omega,hn.1,hn.2⟩
       · have:=(nq (a:=a) (K:=K) (p:=m) (q:=m) (m:=n) (s:=gf a K m cV) (fun c=>hn c.2) (m+1)).1
         have h:(lX a K m (m+1) (gf a K m cV)).h [(m:Int),n]=true:=h
         rw[this,abs] at h;cases h
     · rw[(oth q n e).1] at h
       rcases i1 q n h with h | h
       · exact .inl h
       · exact .inr (by omega)
   · rw[(oth (-1) 0 (by omega)).1,(oth (-1) 0 (by omega)).2.1];exact i2
   · by_cases e:p=m
     · subst e
       obtain ⟨f,f1,f2,f3,f4,f5⟩:=(Bp (a:=a) (K:=K) (p:=p) (s:=gf a K p cV) hn (abs _) (p+1) (Nat.le_refl _)).1 h
       refine ⟨f,f1,by omega,?_,?_,f5⟩
       · rw[(oth f n (by omega)).1];exact f3
       · rw[(oth f n (by omega)).2.1];exact f4
     · rw[(oth p _ (by omega)).1] at h
       obtain ⟨f,f1,f2,f3,f4,f5⟩:=i3 p n (by omega) hn h
       refine ⟨f,f1,f2,?_,?_,?_⟩
       · rw[(oth f n (by omega)).1];exact f3
       · rw[(oth f n (by omega)).2.1,(oth p _ (by omega)).2.1];exact f4
       · rw[(oth p _ (by omega)).2.2];exact f5
   · rw[(oth f n (by omega)).1] at h
     rw[(oth f n (by omega)).2.1]
     by_cases e:p=m
     · subst e
       exact (Bp (a:=a) (K:=K) (p:=p) (s:=gf a K p cV) hn (abs _) (p+1) (Nat.le_refl _)).2 f f1 (by omega) h
     · rw[(oth p _ (by omega)).1,(oth p _ (by omega)).2.1]
       exact i4 f p n (by omega) hn f1 f2 h
end
def yg (N:Nat) (lo hi w:Nat→Int) (P:Nat→Int) (f p:Int):Int:=K6 N lo hi w (if f=-1 then fun _=>false else bH lo hi (P f.toNat)) (P p.toNat)
theorem KP (N:Nat) (lo hi w:Nat→Int) (P:Nat→Int) (m K:Nat):Tb N lo hi w P m K (fun p n=>(gf (yg N lo hi w P) K m cV).h [p,n]) (fun p n=>(gf (yg N lo hi w P) K m cV).g [p,n]) (fun p n=>(gf (yg N lo hi w P) K m cV).g2 [p,n]):=by
 obtain ⟨i1,i2,i3,i4⟩:=Bq (a:=yg N lo hi w P) (K:=K) m
 refine ⟨i2,fun p n h=>?_,fun f p n f1 f2 hp hn h=>?_⟩
 · rcases i1 p n h with h | ⟨h1,h2,h3,h4⟩
   · exact .inl ⟨h.1,by omega⟩
   · obtain ⟨q,rfl⟩:=Int.eq_ofNat_of_zero_le h1
     obtain ⟨n,rfl⟩:∃ k,n=k+1:=⟨n-1,by omega⟩
     have h:(gf (yg N lo hi w P) K m cV).h [(q:Int),(n:Int)+1]=true:=h
     obtain ⟨f,f1,f2,f3,f4,f5⟩:=i3 q n (by omega) (by omega) h
     refine .inr ⟨h1,h2,by omega,by omega,?_⟩
     have e1:((n+1:Nat):Int)=(n:Int)+1:=rfl
     simp only[e1,Nat.add_sub_cancel]
     rw[f5]
     exact ⟨f1,f2,f3,f4⟩
 · exact i4 f p n hp hn f1 f2 h
theorem Em {N:Nat} {lo hi w:Nat→Int} {P:Nat→Int} (hw:∀ i,i<N→0≤w i) (f p:Int):0≤yg N lo hi w P f p∧yg N lo hi w P f p≤gG w N :=
 ⟨xY N (fun i hi2=>by have:=hw i hi2;split<;>omega),kd N (fun i hi2=>by have:=hw i hi2;split<;>omega)⟩
def GC (W:Int) (s:MS):Prop:=∀ q n:Int,s.h [q,n]=true→0≤n∧0≤s.g [q,n]∧s.g [q,n]≤n*W
theorem N4 {a:Int→Int→Int} {W:Int} (ha:∀ f p,0≤a f p∧a f p≤W) {p f n:Int} {s:MS} (h:GC W s):GC W (m4 a p f n s):=by
 by_cases h1:s.h [f,n]=true
 · by_cases h2:I8 a p f n s=true
   · unfold m4
     rw[if_pos h1,if_pos h2]
     intro q k hq
     dsimp only at hq ⊢
     by_cases e:([q,k]:List Int)=[p,n+1]
     · unfold fF
       rw[if_pos e]
       simp at e
       obtain ⟨k1,k2,k3⟩:=h f n h1
       have:=ha f p
       rw[e.2,Int.add_mul,Int.one_mul]
       omega
     · unfold dE at hq
       unfold fF
       rw[if_neg e] at hq ⊢
       exact h q k hq
   · unfold m4
     rw[if_pos h1,if_neg h2]
     exact h
 · unfold m4
   rw[if_neg h1]
   exact h
theorem Jw {a:Int→Int→Int} {W:Int} (ha:∀ f p,0≤a f p∧a f p≤W) {p f:Int} {s:MS} (h:GC W s):∀ n,GC W (g6 a p f n s)
 | 0=>h
 | n+1=>N4 ha (Jw ha h n)
theorem Jv {a:Int→Int→Int} {W:Int} (ha:∀ f p,0≤a f p∧a f p≤W) {K:Nat} {p:Int} {s:MS} (h:GC W s):∀ k,GC W (lX a K p k s)
 | 0=>h
 | k+1=>Jw ha (Jv ha h k) K
theorem Jx {a:Int→Int→Int} {W:Int} (ha:∀ f p,0≤a f p∧a f p≤W) {K:Nat}:∀ m,GC W (gf a K m cV)
 | 0 => fun q n h=>by
   have h':dE (fun _=>false) [-1,0] true [q,n]=true:=h
   unfold dE at h'
   split at h'
   · rename_i e
     simp at e
     rw[e.1,e.2]
     exact ⟨Int.le_refl _,Int.le_refl _,by rw[Int.zero_mul];exact Int.le_refl _⟩
   · cases h'
 | m+1=>Jv ha (Jx ha m) (m+1)
end Go.Eng
end
section
namespace Go.Eng
def uT (g:List Int→Int) (x y:Int×Int):Bool:=decide (g [y.1,y.2]<g [x.1,x.2]) || (decide (g [x.1,x.2]=g [y.1,y.2]) && (decide (x.2<y.2) || (decide (x.2=y.2) && decide (x.1<y.1))))
def BO (g:List Int→Int):List (Int×Int)→Int×Int→Int×Int
 | [],b=>b
 | s::r,b=>BO g r (if uT g s b=true then s else b)
section
variable {g:List Int→Int}
theorem m7 {x y:Int×Int}:uT g x y=true↔g [y.1,y.2]<g [x.1,x.2]∨g [x.1,x.2]=g [y.1,y.2]∧(x.2<y.2∨x.2=y.2∧x.1<y.1):=by
 unfold uT
 simp only[Bool.or_eq_true,Bool.and_eq_true,decide_eq_true_eq]
theorem sQ {x y:Int×Int}:uT g x y=false↔¬(g [y.1,y.2]<g [x.1,x.2]∨g [x.1,x.2]=g [y.1,y.2]∧(x.2<y.2∨x.2=y.2∧x.1<y.1)):=by
 rw[← m7];simp
theorem BP {x y:Int×Int} (h:uT g x y=false) (h':uT g y x=false):x=y:=by
 rw[sQ] at h h'
 have h1:x.1=y.1∧x.2=y.2:=by omega
 exact Prod.ext h1.1 h1.2
theorem EB (x:Int×Int):uT g x x=false:=by rw[sQ];omega
theorem EC {x y z:Int×Int} (h:uT g y x=false) (h':uT g z y=false):uT g z x=false:=by
 rw[sQ] at h h' ⊢
 omega
theorem mf:∀ (ks:List (Int×Int)) (b:Int×Int),(BO g ks b=b∨BO g ks b ∈ ks)∧∀ s,s=b∨s ∈ ks→uT g s (BO g ks b)=false
 | [],b=>⟨.inl rfl,fun s h=>by
   rcases h with rfl | h
   · exact EB _
   · cases h⟩
 | k :: ks,b=>by
   show (BO g ks (if uT g k b=true then k else b)=b∨BO g ks (if uT g k b=true then k else b) ∈ k::ks)∧∀ s,s=b∨s ∈ k::ks→uT g s (BO g ks (if uT g k b=true then k else b))=false
   by_cases c:uT g k b=true
   · rw[if_pos c]
     obtain ⟨i1,i2⟩:=mf ks k
     refine ⟨.inr ?_,fun s h=>?_⟩
     · rcases i1 with h | h
       · rw[h];exact List.mem_cons_self
       · exact List.mem_cons_of_mem _ h
     · rcases h with rfl | h
       · refine EC (i2 k (.inl rfl)) ?_
         rw[m7] at c
         rw[sQ]
         omega
       · rcases List.mem_cons.1 h with rfl | h
         · exact i2 _ (.inl rfl)
         · exact i2 _ (.inr h)
   · rw[if_neg c]
     obtain ⟨i1,i2⟩:=mf ks b
     refine ⟨?_,fun s h=>?_⟩
     · rcases i1 with h | h
       · exact .inl h
       · exact .inr (List.mem_cons_of_mem _ h)
     · rcases h with rfl | h
       · exact i2 _ (.inl rfl)
       · rcases List.mem_cons.1 h with rfl | h
         · exact EC (i2 b (.inl rfl)) (by simpa using c)
         · exact i2 _ (.inr h)
end
def oR (b:Int→Nat→Int) (n:Nat) (p:Int):Nat→Int
 | 0=>p
 | j+1=>b (oR b n p j) (n-j)
theorem wM (b:Int→Nat→Int) (n:Nat) (p:Int):∀ j,oR b (n+1) p (j+1)=oR b n (b p (n+1)) j
 | 0=>rfl
 | j+1=>by
   show b (oR b (n+1) p (j+1)) (n+1-(j+1))=b (oR b n (b p (n+1)) j) (n-j)
   rw[wM b n p j,show n+1-(j+1)=n-j by omega]
theorem Gp (P:Nat→Int) (b:Int→Nat→Int):∀ (n:Nat) (p:Int) (i:Nat),i<n→(Ay P b n p).getD i 0=P (oR b n p (n-1-i)).toNat
 | 0,p,i,h=>by omega
 | n + 1,p,i,h=>by
   show (Ay P b n (b p (n+1))++[P p.toNat]).getD i 0=_
   have hl:=lL P b n (b p (n+1))
   rw[List.getD_eq_getElem?_getD]
   by_cases e:i<n
   · rw[List.getElem?_append_left (by omega),← List.getD_eq_getElem?_getD,Gp P b n _ i e]
     rw[show n+1-1-i=(n-1-i)+1 by omega,wM]
   · obtain rfl:i=n:=by omega
     rw[List.getElem?_append_right (by omega),hl,Nat.sub_self,show i+1-1-i=0 by omega]
     rfl
theorem Bt {N:Nat} {lo hi w:Nat→Int} {P:Nat→Int} {m K:Nat} {h:Int→Nat→Bool} {g:Int→Nat→Int} {b:Int→Nat→Int} (t:Tb N lo hi w P m K h g b) {p:Int} {n:Nat} (hp:h p n=true):∀ j,j≤n→h (oR b n p j) (n-j)=true∧(j<n→0≤oR b n p j∧oR b n p j<m)
 | 0,_=>⟨hp,fun hj=>by
   rcases t.from_ p n hp with ⟨_,a⟩ | ⟨a,a2,_⟩
   · omega
   · exact ⟨a,a2⟩⟩
 | j + 1,hj=>by
   obtain ⟨i1,_⟩:=Bt t hp j (by omega)
   rcases t.from_ _ _ i1 with ⟨_,a⟩ | ⟨_,_,_,_,_,_,k,_⟩
   · omega
   · have k:h (oR b n p (j+1)) (n-j-1)=true:=k
     rw[show n-j-1=n-(j+1) by omega] at k
     refine ⟨k,fun hj2=>?_⟩
     rcases t.from_ _ _ k with ⟨_,a⟩ | ⟨a,a2,_⟩
     · omega
     · exact ⟨a,a2⟩
theorem Gk {N:Nat} {lo hi w:Nat→Int} {P:Nat→Int} {m K:Nat} {h:Int→Nat→Bool} {g:Int→Nat→Int} {b:Int→Nat→Int} (t:Tb N lo hi w P m K h g b) {p:Int} {n:Nat} (hp:h p n=true):oR b n p n=-1:=by
 have:=(Bt t hp n (Nat.le_refl _)).1
 rw[Nat.sub_self] at this
 exact ya t this
end Go.Eng
end
section
namespace Go.Eng

def J9 (b:Bool) (v:AV):Bool :=
 match v with
 | .bool c=>cond b c (cond c false true)
 | _=>false
theorem Cg (b:Bool) (v:AV):J9 b v=LO b v:=by
 cases v with
 | bool c=>cases b<;>cases c<;>rfl
 | _=>rfl
noncomputable def bm.oH (L:bm) (cx:Cx) (callR:bJ) (bl:gH) (rg:r7) (k n:Nat) (kv:AV×AV) (fr:aT) (H:aa):Tr (aT×aa) :=
 (iL cx.P cx.nt cx.call callR L.ops1 L.t1 (rP cx.nt fr (some L.nx) (.tup [.bool true,kv.1,kv.2],none)) H).bind fun x =>
   cond (J9 true (lU x.1 L.mo).1) (cond (lr k (lU x.1 L.it).1)
    ((iL cx.P cx.nt cx.call callR L.ops2 L.t2 (rP cx.nt x.1 (some L.en) (.tup [kv.1,kv.2],none)) x.2).bind fun y =>
      (aK cx callR bl rg L.rest y.1 y.2).bind fun z=>match z with
        | (.normal,fr,H)=>cond (lr k (lU (gM fr L.km) L.it).1) (.ok (gM fr L.km,lP n (strip (gM fr L.km)) H)) .bad
        | _=>.bad) .bad) .bad
theorem bm.DZ {L:bm} {cx:Cx} {callR:bJ} {bl:gH} {rg:r7} (hC:callR.Ok cx.call) (hB:bl.Ok cx L.rest) (hR:rg.Ok cx L.rest) {k n:Nat} {kv:AV×AV} {fr:aT} {H:aa} {y:aT×aa} (h:(L.oH cx callR bl rg k n kv fr H).run=some y) :
 L.round cx k n kv (strip fr) H=some (strip y.1,y.2):=by
 unfold bm.oH at h
 obtain ⟨x,h1,h⟩:=Tr.bind_some h
 obtain ⟨b1,h⟩:=Tr.aW h
 obtain ⟨b2,h⟩:=Tr.aW h
 obtain ⟨z,h2,h⟩:=Tr.bind_some h
 obtain ⟨u,h3,h⟩:=Tr.bind_some h
 have h1:=fR hC _ _ _ _ h1
 have h2:=fR hC _ _ _ _ h2
 have h3:=mn hC L.rest hB hR _ _ _ h3
 rw[mR] at h1 h2
 rw[Cg,fB] at b1
 rw[fB] at b2
 unfold bm.round
 rw[cA,h1]
 dsimp only
 rw[b1,b2,Bool.and_self,if_pos rfl,cA,h2]
 dsimp only
 rw[dK,h3]
 obtain ⟨e,f,G⟩:=u
 cases e with
 | normal =>
   dsimp only at h
   obtain ⟨b3,h⟩:=Tr.aW h
   rw[fB,fg] at b3
   show (if lr k (bw (bV (strip f) L.km) L.it) then _ else none)=_
   rw[if_pos b3,← Tr.ab h,fg]
 | _=>exact (Tr.ae h).elim
noncomputable def bm.zj (L:bm) (cx:Cx) (callR:bJ) (fr:aT) (H:aa):Tr (aT×aa) :=
 (iL cx.P cx.nt cx.call callR L.ops1 L.t1 (rP cx.nt fr (some L.nx) (.tup [.bool false],none)) H).bind fun x=>cond (J9 false (lU x.1 L.mo).1) (.ok x) .bad
theorem bm.Fw {L:bm} {cx:Cx} {callR:bJ} (hC:callR.Ok cx.call) {fr:aT} {H:aa} {y:aT×aa} (h:(L.zj cx callR fr H).run=some y):L.last cx (strip fr) H=some (strip y.1,y.2):=by
 unfold bm.zj at h
 obtain ⟨x,h1,h⟩:=Tr.bind_some h
 obtain ⟨b1,h⟩:=Tr.aW h
 have h1:=fR hC _ _ _ _ h1
 rw[mR] at h1
 rw[Cg,fB] at b1
 unfold bm.last
 rw[cA,h1]
 dsimp only
 rw[if_pos b1,← Tr.ab h]
noncomputable def bK.Bc (S:bK) (cx:Cx) (callR:bJ) (fr:aT) (H:aa):Tr (aT×aa):=iL cx.P cx.nt cx.call callR S.ops0 S.pre fr H
theorem bK.sv {S:bK} {cx:Cx} {callR:bJ} (hC:callR.Ok cx.call) {fr:aT} {H:aa} {y:aT×aa} (h:(S.Bc cx callR fr H).run=some y):cR cx.P cx.nt cx.call S.ops0 S.pre (strip fr) H=some (strip y.1,y.2):=by
 rw[cA]
 exact fR hC _ _ _ _ h
end Go.Eng
end
