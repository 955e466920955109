/- Bath: what a bath adds to one before it. -/
import Derived.Test.YtigmfpmabgekoaaGreatV12Bc5x23
set_option linter.unusedVariables false
set_option linter.unusedSimpArgs false
set_option maxRecDepth 100000
section
namespace Go.Eng
open Go.Proofs
noncomputable def Kg (B:AV) (m:Int→Nat→Int):List AV→Option (Prop×AV)
 | [A,.int .i64 q]=>some (A=B,.agg (.M [.arr .i64 (m q) 14]))
 | _=>none
noncomputable def yF (l:Nat) (y:Nat→Int) (a j:Int):ay:=[(9,.ptr 0 0 0 0),(10,.ptr 0 1 0 0),(11,.int .i64 a),(35,aG 7 l y),(36,.int .i64 (Int.ofNat l)),(37,.int .i64 j)]
noncomputable def zo (a b:Nat→Int):bm:=⟨false,[(0,.row (.M [.arr .i64 a 14])),(0,.row (.M [.arr .i64 b 14]))]⟩
theorem t93 (n l:Nat) (y a b:Nat→Int) (H:aa) (s j:Int):aN (bp n 93 56) (il aR n 0) aW aX (part Tryz.f93 [1,1,1,1,1,0,1,0,0]) (hints (yF l y s j)) (zo a b::H) =
 (fun (Z0:bm)=>Tr.ite (df j (Int.ofNat l)) (Tr.req (dR j l) (Tr.req (bx (au 0 j 7) (aq l 7)) (Tr.req (bx (ah (au 0 j 7) 1) (aq l 7)) (Tr.req (bx (ah (au 0 j 7) 2) (aq l 7)) (Tr.req (bx (ah (au 0 j 7) 3) (aq l 7)) (Tr.req (bx (ah (au 0 j 7) 4) (aq l 7)) (Tr.req (bx (ah (au 0 j 7) 5) (aq l 7)) (Tr.req (bx (ah (au 0 j 7) 6) (aq l 7)) (Tr.req (dR j 14) (Tr.req (cM 0 0) (Tr.req (bx (au 0 j 1) 14) (Tr.req (dR j 14) (Tr.req (cM 0 0) (Tr.req (bx (au 0 j 1) 14) (Tr.ite (df (b (au 0 j 1)) (a (au 0 j 1))) (Tr.ok (Ex.normal,[(9,AV.ptr 0 0 0 0,none),(10,AV.ptr 0 1 0 0,none),(11,AV.int .i64 (aK .i64 s (y (ah (au 0 j 7) 4))),none),(35,aG 7 l y,none),(36,AV.int .i64 (Int.ofNat l),none),(37,AV.int .i64 (aK .i64 j (Int.ofNat 1)),none)],Z0::H)) (Tr.ok (Ex.normal,[(9,AV.ptr 0 0 0 0,none),(10,AV.ptr 0 1 0 0,none),(11,AV.int .i64 s,none),(35,aG 7 l y,none),(36,AV.int .i64 (Int.ofNat l),none),(37,AV.int .i64 (aK .i64 j (Int.ofNat 1)),none)],Z0::H))))))))))))))))) (Tr.ok (Ex.exit 0,[(9,AV.ptr 0 0 0 0,none),(10,AV.ptr 0 1 0 0,none),(11,AV.int .i64 s,none),(35,aG 7 l y,none),(36,AV.int .i64 (Int.ofNat l),none),(37,AV.int .i64 j,none),(38,AV.bool false,some 1)],{ lock:=false,bs:=[(0,ak.row (Row.M [aL.arr .i64 a 14])),(0,ak.row (Row.M [aL.arr .i64 b 14]))] } :: H))) { lock:=false,bs:=[(0,ak.row (Row.M [aL.arr .i64 a 14])),(0,ak.row (Row.M [aL.arr .i64 b 14])),(0,ak.row (Row.I .i64 [y (au 0 j 7),y (ah (au 0 j 7) 1),y (ah (au 0 j 7) 2),y (ah (au 0 j 7) 3),y (ah (au 0 j 7) 4),y (ah (au 0 j 7) 5),y (ah (au 0 j 7) 6)]))] }:=by kernel_rfl
theorem N2 (n s l k:Nat) (y P a b:Nat→Int) (m:Int→Nat→Int) (H:aa) (f p x:Int):bu Tryz.prog (cd n) 100000 93 Tryz.f93 (KtB.kt 93) (il (iz aR 56 (Kg (iO (s+1) l y) m)) n 0) (eP aW 0 (yF l y (Int.ofNat 0) (Int.ofNat 0)) (zo a b::H) (.ok (.normal,hints (yF l y x (Int.ofNat l)++[(38,.bool false)]),zo a b::H))) aX [(iO s l y,none),(bD k P false,none),(.int .i64 f,none),(.int .i64 p,none)] H =
 (fun (Z0:ay)=>((fun (Z1:bm)=>((fun (Z2:Prop)=>((fun (Z3:Nat×ak)=>Tr.req (dR p k) (Tr.req (bx (au 0 p 1) k) (Tr.reqP Z2 (Tr.req (la 0 14 0 14) (Tr.req (la 0 14 0 14) (Tr.ite (nM (Int.ofNat 0) f) (Tr.req (dR f k) (Tr.req (bx (au 0 f 1) k) (Tr.reqP Z2 (Tr.req (la 0 14 0 14) (Tr.ite (lg (fK (fun x=>Int.ofNat 0) 0 (m (P (au 0 p 1))) 14) (fK (fK (fun x=>Int.ofNat 0) 0 (fun x=>Int.ofNat 0) 14) 0 (m (P (au 0 f 1))) 14) 14) (Tr.ok ((AV.int .i64 (Int.ofNat 0),some 1),H)) (Tr.reqP (Z0=Z0∧{ lock:=false,bs:=[Z3,(0,ak.row (Row.M [aL.arr .i64 (fK (fK (fun x=>Int.ofNat 0) 0 (fun x=>Int.ofNat 0) 14) 0 (m (P (au 0 f 1))) 14) 14]))] } :: H=Z1::H) (Tr.ok ((AV.int .i64 x,none),H)))))))) (Tr.ite (lg (fK (fun x=>Int.ofNat 0) 0 (m (P (au 0 p 1))) 14) (fK (fun x=>Int.ofNat 0) 0 (fun x=>Int.ofNat 0) 14) 14) (Tr.ok ((AV.int .i64 (Int.ofNat 0),some 1),H)) (Tr.reqP (Z0=Z0∧{ lock:=false,bs:=[Z3,(0,ak.row (Row.M [aL.arr .i64 (fK (fun x=>Int.ofNat 0) 0 (fun x=>Int.ofNat 0) 14) 14]))] } :: H=Z1::H) (Tr.ok ((AV.int .i64 x,none),H)))))))))) (0,ak.row (Row.M [aL.arr .i64 (fK (fun x=>Int.ofNat 0) 0 (m (P (au 0 p 1))) 14) 14])))) (AV.ptrT (some (Nat.succ s)) (Row.G [aG 7 l y]) 0=AV.ptrT (some (Nat.succ s)) (Row.G [aG 7 l y]) 0))) { lock:=false,bs:=[(0,ak.row (Row.M [aL.arr .i64 a 14])),(0,ak.row (Row.M [aL.arr .i64 b 14]))] })) [(9,AV.ptr 0 0 0 0),(10,AV.ptr 0 1 0 0),(11,AV.int .i64 (Int.ofNat 0)),(35,aG 7 l y),(36,AV.int .i64 (Int.ofNat l)),(37,AV.int .i64 (Int.ofNat 0))]:=by kernel_rfl
theorem RD:∀ b,(0,b) ∈ bc (bZ Tryz.f93)→b=.loop (part Tryz.f93 [1,1,1,1,1,0,1,0,0]):=jj (by kernel_rfl)
def gm (z:Nat→Int) (i:Nat):Int:=z (i*5+4)
def wM (a b w:Nat→Int) (j:Nat):Int:=ku (fun i=>if b i<a i then w i else 0) j
theorem Ep {a b w:Nat→Int} {B:Int} (hB:0≤B):∀ j,(∀ i,i<j→0≤w i∧w i≤B)→0≤wM a b w j∧wM a b w j≤(j:Int)*B
 | 0,_=>⟨Int.le_refl _,by show (0:Int)≤((0:Nat):Int)*B;simp⟩
 | j+1,h=>by
   obtain ⟨i1,i2⟩:=Ep (a:=a) (b:=b) hB j (fun i hi=>h i (by omega))
   have hj:=h j (by omega)
   have e:((j+1:Nat):Int)*B=(j:Int)*B+B:=by rw[show ((j+1:Nat):Int)=(j:Int)+1 from rfl,Int.add_mul,Int.one_mul]
   rw[e]
   show 0≤wM a b w j+(if b j<a j then w j else 0)∧wM a b w j+(if b j<a j then w j else 0)≤_
   split<;>omega
section
variable (n s l k:Nat) (z P:Nat→Int) (H:aa)
theorem RQ (a b:Nat→Int) (h:bh l z=0):exec (bp n 93 56) (.block 0 (.loop (part Tryz.f93 [1,1,1,1,1,0,1,0,0]))) (yF l (oY z l) (Int.ofNat 0) (Int.ofNat 0)) (zo a b::H)=some (.normal,yF l (oY z l) (wM a b (gm z) l) (Int.ofNat l)++[(38,.bool false)],zo a b::H):=by
 obtain ⟨hl,hz⟩:=bM h
 refine j9 0 (fun j=>yF l (oY z l) (wM a b (gm z) j) (j:Int)) (fun _=>zo a b::H) l (yF l (oY z l) (wM a b (gm z) l) (Int.ofNat l)++[(38,.bool false)],zo a b::H) (by omega) (fun j hj=>?_) ?_
 · have ej:aK .i64 (j:Int) (Int.ofNat 1)=((j+1:Nat):Int):=rV (by omega)
   have ei:au 0 (j:Int) 7=j*7:=by rw[bB];omega
   have ei1:au 0 (j:Int) 1=j:=Hr j
   have h4:oY z l (j*7+4)=gm z j:=nU z (by omega) (by omega)
   have hw:∀ i,i<j+1→0≤gm z i∧gm z i≤100000:=fun i hi=>by
    have:=hz i (by omega)
    unfold gm;omega
   obtain ⟨r1,r2⟩:=Ep (a:=a) (b:=b) (w:=gm z) (by decide) j (fun i hi=>hw i (by omega))
   have r3:=hw j (by omega)
   have hs:wM a b (gm z) (j+1)=wM a b (gm z) j+(if b j<a j then gm z j else 0):=rfl
   refine aD (t93 n l (oY z l) a b H (wM a b (gm z) j) (j:Int)) (aI n) (af _ _) (ag _ _) ?_
   simp only[ei,aU]
   rw[ej,ei1,h4]
   have ea:aK .i64 (wM a b (gm z) j) (gm z j)=wM a b (gm z) j+gm z j:=by rw[bH];exact cr (by omega) (by omega)
   rw[ea]
   generalize wM a b (gm z) (j+1)=t at *
   generalize wM a b (gm z) j=t0 at *
   generalize gm z j=wj at *
   repeat' first | (refine Tr.al (fun hc=>?_) (fun hc=>?_)<;>(try simp (disch:=omega) only[nV,nW] at hc)<;>(try (exfalso;omega))) | (refine Tr.a8 ?_ ?_;· ((try simp (disch:=omega) only[nV,nW]);try omega)) | (refine Tr.aw ?_ ?_;· first | exact trivial | rfl | exact ⟨rfl,rfl⟩ | exact ⟨trivial,rfl⟩ | exact ⟨rfl,by assumption⟩ | exact ⟨trivial,by assumption⟩ | exact ⟨rfl,rfl,rfl⟩ | (simp (disch:=omega) only[nV,nW];done) | ((try simp (disch:=omega) only[nV,nW]);omega)) | fail
   all_goals first
    | (rw[if_pos (by omega)] at hs;subst hs;exact Tr.av ⟨rfl,rfl⟩)
    | (rw[if_neg (by omega),Int.add_zero] at hs;subst hs;exact Tr.av ⟨rfl,rfl⟩)
    | fail
 · obtain ⟨x,h1,rfl⟩:=aD (Q:=fun x=>x=(.exit 0,yF l (oY z l) (wM a b (gm z) l) (Int.ofNat l)++[(38,.bool false)],zo a b::H)) (t93 n l (oY z l) a b H (wM a b (gm z) l) (Int.ofNat l)) (aI n) (af _ _) (ag _ _) (by
    exact wF)
   exact h1
theorem JZ {g m:Nat→Int} (hg:∀ i,14≤i→g i=0) (hm:∀ i,14≤i→m i=0):fK g 0 m 14=m:=by
 rw[jR];funext i;unfold qk
 by_cases hi:i<14
 · simp[hi]
 · rw[if_neg (by omega),hg i (by omega),hm i (by omega)]
theorem FT {q:Int} (hl:l≤14):∀ i,14≤i→jI z q l i=0:=fun i hi=>by
 unfold jI;rw[if_neg (by omega)]
theorem I5 {c:Nat} {t:me} (h:bh l z=0) (ht:t.Ok (cd (c+2))):(iz t 56 (Kg (iO s l (oY z l)) fun q=>jI z q l)).Ok (cd (c+2)):=by
 refine dQ ht (fun args p v hg hp H=>?_)
 unfold Kg at hg
 split at hg
 · simp only[nP] at hg
   obtain ⟨rfl,rfl⟩:=hg
   subst hp
   exact OA c s l z H _ h
 · cases hg
noncomputable def eN (l:Nat) (z P:Nat→Int) (f p:Int):Int:=yf l (cq z) (bE z) (gm z) P f p
theorem Jl {q r:Int} (i:Nat) (hi:i<l):(jI z r l i<jI z q l i)↔(ke (cq z) (bE z) q i=true∧ke (cq z) (bE z) r i=false):=by
 have e1:ke (cq z) (bE z) q i=wX z q i:=rfl
 have e2:ke (cq z) (bE z) r i=wX z r i:=rfl
 rw[e1,e2]
 unfold jI
 cases wX z q i<;>cases wX z r i<;>simp[hi]
theorem IZ {f p:Int} (hf:0≤f):wM (jI z (P p.toNat) l) (jI z (P f.toNat) l) (gm z) l=eN l z P f p:=di l (fun i hi=>by
 rw[if_neg (show ¬ f=-1 by omega)]
 by_cases c:jI z (P f.toNat) l i<jI z (P p.toNat) l i
 · rw[if_pos c,if_pos ((Jl l z i hi).1 c)]
 · rw[if_neg c,if_neg (fun x=>c ((Jl l z i hi).2 x))])
theorem IY {p:Int}:wM (jI z (P p.toNat) l) (fun _=>0) (gm z) l=eN l z P (-1) p:=di l (fun i hi=>by
 rw[if_pos rfl]
 have e1:ke (cq z) (bE z) (P p.toNat) i=wX z (P p.toNat) i:=rfl
 have e2:(0<jI z (P p.toNat) l i)↔wX z (P p.toNat) i=true:=by
  unfold jI;cases wX z (P p.toNat) i<;>simp[hi]
 rw[e1]
 by_cases c:0<jI z (P p.toNat) l i
 · rw[if_pos c,if_pos ⟨e2.1 c,rfl⟩]
 · rw[if_neg c,if_neg (fun x=>c (e2.2 x.1))])
theorem yi {a b w:Nat→Int} {j:Nat} (h:∀ i,i<j→a i=b i):wM a b w j=0:=Aj (fun i hi=>by rw[if_neg (by rw[h i hi];omega)])
theorem GZ (z y:Nat→Int) (n:Nat):lg z y n=true↔∀ j,j<n→z j=y j:=by
 rw[vo]
 induction n with
 | zero=>simp[allEq]
 | succ n ih =>
   simp only[allEq,Bool.and_eq_true,beq_iff_eq,ih]
   constructor
   · rintro ⟨h1,h2⟩ j hj
     by_cases e:j=n
     · subst e;exact h2
     · exact h1 j (by omega)
   · exact fun h=>⟨fun j hj=>h j (by omega),h n (by omega)⟩
theorem BK (x y:Nat→Int) (m:Nat) (h:lg x y m=true):∀ j,j<m→x j=y j:=(GZ x y m).1 h
theorem Sl (f p:Int) (h:bh l z=0) (hk:k≤1000) (hf:-1≤f∧f<k) (hp:0≤p∧p<k):cd (n+3) (.fn 93) [iO s l (oY z l),bD k P false,.int .i64 f,.int .i64 p] H=some (.int .i64 (eN l z P f p),H):=by
 obtain ⟨hl,_⟩:=bM h
 have e0:∀ q,fK (fun x=>Int.ofNat 0) 0 (jI z q l) 14=jI z q l:=fun q=>JZ (fun _ _=>rfl) (FT l z (by omega))
 have e1:fK (fun x=>Int.ofNat 0) 0 (fun x=>Int.ofNat 0) 14=fun _=>(0:Int):=JZ (fun _ _=>rfl) (fun _ _=>rfl)
 have e2:∀ q,fK (fun _=>(0:Int)) 0 (jI z q l) 14=jI z q l:=fun q=>JZ (fun _ _=>rfl) (FT l z (by omega))
 have ep:au 0 p 1=p.toNat:=by rw[bB];omega
 by_cases hf0:0≤f
 · have ef:au 0 f 1=f.toNat:=by rw[bB];omega
   refine ba (n:=n+2) Tryz.func93 rfl rfl rfl (N2 (n+2) s l k (oY z l) P (jI z (P p.toNat) l) (jI z (P f.toNat) l) (fun q=>jI z q l) H f p (eN l z P f p)) (cP _ (n+2) 0 (fun q=>by rw[show n+2+q=n+q+2 by omega];exact I5 (s+1) l z h (aO _))) (bz (af _ _) RD (fun x hx=>by rw[← Tr.ab hx];simp only[gi.st,aP];rw[← IZ l z P hf0];exact RQ (n+2) l z H _ _ h)) (ag _ _) ?_
   simp only[e0,e1,e2,ep,ef]
   have hsame:lg (jI z (P p.toNat) l) (jI z (P f.toNat) l) 14=true→eN l z P f p=0:=fun hc=>by
    rw[← IZ l z P hf0]
    exact yi (fun i hi=>BK _ _ _ hc i (by omega))
   generalize eN l z P f p=V at *
   repeat' first | (refine Tr.al (fun hc=>?_) (fun hc=>?_)<;>(try simp (disch:=omega) only[nV,nW] at hc)<;>(try (exfalso;omega))) | (refine Tr.a8 ?_ ?_;· ((try simp (disch:=omega) only[nV,nW]);try omega)) | (refine Tr.aw ?_ ?_;· first | exact trivial | rfl | exact ⟨rfl,rfl⟩ | exact ⟨trivial,rfl⟩ | exact ⟨rfl,by assumption⟩ | exact ⟨trivial,by assumption⟩ | exact ⟨rfl,rfl,rfl⟩ | (simp (disch:=omega) only[nV,nW];done) | ((try simp (disch:=omega) only[nV,nW]);omega)) | fail
   all_goals first
    | exact Tr.av ⟨rfl,rfl⟩
    | (have:=hsame (by assumption);subst this;exact Tr.av ⟨rfl,rfl⟩)
    | fail
 · obtain rfl:f=-1:=by omega
   refine ba (n:=n+2) Tryz.func93 rfl rfl rfl (N2 (n+2) s l k (oY z l) P (jI z (P p.toNat) l) (fun _=>0) (fun q=>jI z q l) H (-1) p (eN l z P (-1) p)) (cP _ (n+2) 0 (fun q=>by rw[show n+2+q=n+q+2 by omega];exact I5 (s+1) l z h (aO _))) (bz (af _ _) RD (fun x hx=>by rw[← Tr.ab hx];simp only[gi.st,aP];rw[← IY l z P];exact RQ (n+2) l z H _ _ h)) (ag _ _) ?_
   simp only[e0,e1,e2,ep]
   have hsame:lg (jI z (P p.toNat) l) (fun _=>0) 14=true→eN l z P (-1) p=0:=fun hc=>by
    rw[← IY l z P]
    exact yi (fun i hi=>BK _ _ _ hc i (by omega))
   generalize eN l z P (-1) p=V at *
   repeat' first | (refine Tr.al (fun hc=>?_) (fun hc=>?_)<;>(try simp (disch:=omega) only[nV,nW] at hc)<;>(try (exfalso;omega))) | (refine Tr.a8 ?_ ?_;· ((try simp (disch:=omega) only[nV,nW]);try omega)) | (refine Tr.aw ?_ ?_;· first | exact trivial | rfl | exact ⟨rfl,rfl⟩ | exact ⟨trivial,rfl⟩ | exact ⟨rfl,by assumption⟩ | exact ⟨trivial,by assumption⟩ | exact ⟨rfl,rfl,rfl⟩ | (simp (disch:=omega) only[nV,nW];done) | ((try simp (disch:=omega) only[nV,nW]);omega)) | fail
   all_goals first
    | exact Tr.av ⟨rfl,rfl⟩
    | (have:=hsame (by assumption);subst this;exact Tr.av ⟨rfl,rfl⟩)
    | fail
end
end Go.Eng
end
section
namespace Go.Eng
open Go.Proofs
noncomputable def oj (v m:Nat) (k:Int):ay:=[(0,.slc 1 0 v 0 1 m none),(3,.int .i64 k)]
noncomputable def rq (v m o len:Nat) (k j:Int):ay:=[(0,.slc 1 0 v 0 1 m none),(3,.int .i64 k),(4,.slc 1 0 v o 1 len none),(5,.int .i64 j)]
theorem NF (n v m o len:Nat) (a:Nat→Int) (H:aa) (k j:Int):aN (bp n 97 61) (il aR n 0) aW aX (part Tryz.f97 [1,1,0,1,0,0,1,0,0,1,0,1,0,1,0,0]) (hints (rq v m o len k j)) (aC::⟨false,[(v,.row (.M [.arr .i64 a m]))]⟩::H) =
 Tr.ite (df j (Int.ofNat len)) (Tr.req (dR j len) (Tr.req (cM v v) (Tr.req (bx (au o j 1) m) (Tr.req (dR (eO .i64 j (Int.ofNat 1)) len) (Tr.req (cM v v) (Tr.req (bx (au o (eO .i64 j (Int.ofNat 1)) 1) m) (Tr.ite (bG (dD (a (au o j 1)) (a (au o (eO .i64 j (Int.ofNat 1)) 1)))) (Tr.req (dR j len) (Tr.req (cM v v) (Tr.req (bx (au o j 1) m) (Tr.req (dR k m) (Tr.req (cM v v) (Tr.req (bx (au 0 k 1) m) (Tr.ok (Ex.normal,[(0,AV.slc 1 0 v 0 1 m none,none),(3,AV.int .i64 (aK .i64 k (Int.ofNat 1)),none),(4,AV.slc 1 0 v o 1 len none,none),(5,AV.int .i64 (aK .i64 j (Int.ofNat 1)),none)],aC::{ lock:=false,bs:=[(v,ak.row (Row.M [aL.arr .i64 (iw a (au 0 k 1) (a (au o j 1))) m]))] } :: H)))))))) (Tr.ok (Ex.normal,[(0,AV.slc 1 0 v 0 1 m none,none),(3,AV.int .i64 k,none),(4,AV.slc 1 0 v o 1 len none,none),(5,AV.int .i64 (aK .i64 j (Int.ofNat 1)),none)],aC::{ lock:=false,bs:=[(v,ak.row (Row.M [aL.arr .i64 a m]))] } :: H))))))))) (Tr.ok (Ex.exit 2,[(0,AV.slc 1 0 v 0 1 m none,none),(3,AV.int .i64 k,none),(4,AV.slc 1 0 v o 1 len none,none),(5,AV.int .i64 j,none),(32,AV.bool false,some 1)],aC::{ lock:=false,bs:=[(v,ak.row (Row.M [aL.arr .i64 a m]))] } :: H)):=by kernel_rfl
theorem Jt (n v m:Nat) (a:Nat→Int) (H:aa) (k:Int):aN (bp n 97 61) (il aR n 0) (pZ aW 2) aX (part Tryz.f97 [1,1,0,1,0,0]) (hints (oj v m k)) (aC::⟨false,[(v,.row (.M [.arr .i64 a m]))]⟩::H) =
 Tr.ite (df k (Int.ofNat m)) (Tr.req (dR k m) (Tr.req (cM v v) (Tr.req (bx (au 0 k 1) m) (Tr.req (dR (eO .i64 k (Int.ofNat 1)) m) (Tr.req (cM v v) (Tr.req (bx (au 0 (eO .i64 k (Int.ofNat 1)) 1) m) (Tr.ite (dD (a (au 0 k 1)) (a (au 0 (eO .i64 k (Int.ofNat 1)) 1))) (Tr.req (jk k m) Tr.bad) (Tr.ok (Ex.normal,[(0,AV.slc 1 0 v 0 1 m none,none),(3,AV.int .i64 (aK .i64 k (Int.ofNat 1)),none)],aC::{ lock:=false,bs:=[(v,ak.row (Row.M [aL.arr .i64 a m]))] } :: H))))))))) (Tr.ok (Ex.exit 0,[(0,AV.slc 1 0 v 0 1 m none,none),(3,AV.int .i64 k,none),(13,AV.bool false,some 1)],aC::{ lock:=false,bs:=[(v,ak.row (Row.M [aL.arr .i64 a m]))] } :: H)):=by kernel_rfl
theorem QU (n v m o len:Nat) (a b:Nat→Int) (H:aa) (k x:Int):aN (bp n 97 61) (il aR n 0) (eP aW 2 (rq v m o len k (Int.ofNat 1)) (aC::⟨false,[(v,.row (.M [.arr .i64 a m]))]⟩::H) (.ok (.normal,hints (rq v m o len x (Int.ofNat len)++[(32,.bool false)]),aC::⟨false,[(v,.row (.M [.arr .i64 b m]))]⟩::H))) aX (part Tryz.f97 [1,1,0,1,0,0]) (hints (oj v m k)) (aC::⟨false,[(v,.row (.M [.arr .i64 a m]))]⟩::H) =
 (fun (Z0:bm)=>Tr.ite (df k (Int.ofNat m)) (Tr.req (dR k m) (Tr.req (cM v v) (Tr.req (bx (au 0 k 1) m) (Tr.req (dR (eO .i64 k (Int.ofNat 1)) m) (Tr.req (cM v v) (Tr.req (bx (au 0 (eO .i64 k (Int.ofNat 1)) 1) m) (Tr.ite (dD (a (au 0 k 1)) (a (au 0 (eO .i64 k (Int.ofNat 1)) 1))) (Tr.req (jk k m) (Tr.reqP ([(0,AV.slc 1 0 v 0 1 m none),(3,AV.int .i64 k),(4,AV.slc 1 0 v (ah 0 (dB k)) 1 (dg m (dB k)) none),(5,AV.int .i64 (Int.ofNat 1))]=[(0,AV.slc 1 0 v 0 1 m none),(3,AV.int .i64 k),(4,AV.slc 1 0 v o 1 len none),(5,AV.int .i64 (Int.ofNat 1))]∧aC::Z0::H=aC::Z0::H) (Tr.req (jk x m) (Tr.req (bx 0 (dg m (dB x))) (Tr.req (cM v v) (Tr.req (la (ah 0 (dB x)) (dg m (dB x)) 0 m) (Tr.req (jk x m) (Tr.ok (Ex.ret,[(2,AV.slc 1 0 v 0 1 (dB x) none,none)],aC::{ lock:=false,bs:=[(v,ak.row (Row.M [aL.arr .i64 (fK b (ah 0 (dB x)) (fun x=>Int.ofNat 0) (dg m (dB x))) m]))] } :: H))))))))) (Tr.ok (Ex.normal,[(0,AV.slc 1 0 v 0 1 m none,none),(3,AV.int .i64 (aK .i64 k (Int.ofNat 1)),none)],aC::Z0::H))))))))) (Tr.ok (Ex.exit 0,[(0,AV.slc 1 0 v 0 1 m none,none),(3,AV.int .i64 k,none),(13,AV.bool false,some 1)],aC::Z0::H))) { lock:=false,bs:=[(v,ak.row (Row.M [aL.arr .i64 a m]))] }:=by kernel_rfl
theorem Rn (n v m:Nat) (a b:Nat→Int) (H:aa) (x:Nat):bu Tryz.prog (cd n) 100000 97 Tryz.f97 (KtB.kt 97) (il aR n 0) (eP aW 0 (oj v m (Int.ofNat 1)) (aC::⟨false,[(v,.row (.M [.arr .i64 a m]))]⟩::H) (.ok (.ret,hints [(2,.slc 1 0 v 0 1 x none)],aC::⟨false,[(v,.row (.M [.arr .i64 b m]))]⟩::H))) aX [(.slc 0 0 v 0 1 m none,none)] (⟨false,[(v,.row (.M [.arr .i64 a m]))]⟩::H) =
 (fun (Z0:bm)=>Tr.ite (df (Int.ofNat m) (Int.ofNat 2)) (Tr.ok ((AV.slc 0 0 v 0 1 m none,none),Z0::H)) (Tr.reqP ([(0,AV.slc 1 0 v 0 1 m none),(3,AV.int .i64 (Int.ofNat 1))]=[(0,AV.slc 1 0 v 0 1 m none),(3,AV.int .i64 (Int.ofNat 1))]∧aC::Z0::H=aC::Z0::H) (Tr.ok ((AV.slc 0 0 v 0 1 x none,none),{ lock:=false,bs:=[(v,ak.row (Row.M [aL.arr .i64 b m]))] } :: H)))) { lock:=false,bs:=[(v,ak.row (Row.M [aL.arr .i64 a m]))] }:=by kernel_rfl
theorem Rp (n v m:Nat) (a:Nat→Int) (H:aa):bu Tryz.prog (cd n) 100000 97 Tryz.f97 (KtB.kt 97) (il aR n 0) (pZ aW 0) aX [(.slc 0 0 v 0 1 m none,none)] (⟨false,[(v,.row (.M [.arr .i64 a m]))]⟩::H) =
 Tr.ite (df (Int.ofNat m) (Int.ofNat 2)) (Tr.ok ((AV.slc 0 0 v 0 1 m none,none),{ lock:=false,bs:=[(v,ak.row (Row.M [aL.arr .i64 a m]))] } :: H)) Tr.bad:=by kernel_rfl
theorem Ro (n v m:Nat) (a:Nat→Int) (H:aa):bu Tryz.prog (cd n) 100000 97 Tryz.f97 (KtB.kt 97) (il aR n 0) (eP aW 0 (oj v m (Int.ofNat 1)) (aC::⟨false,[(v,.row (.M [.arr .i64 a m]))]⟩::H) (.ok (.normal,hints (oj v m (Int.ofNat m)++[(13,.bool false)]),aC::⟨false,[(v,.row (.M [.arr .i64 a m]))]⟩::H))) aX [(.slc 0 0 v 0 1 m none,none)] (⟨false,[(v,.row (.M [.arr .i64 a m]))]⟩::H) =
 (fun (Z0:bm)=>Tr.ite (df (Int.ofNat m) (Int.ofNat 2)) (Tr.ok ((AV.slc 0 0 v 0 1 m none,none),Z0::H)) (Tr.reqP ([(0,AV.slc 1 0 v 0 1 m none),(3,AV.int .i64 (Int.ofNat 1))]=[(0,AV.slc 1 0 v 0 1 m none),(3,AV.int .i64 (Int.ofNat 1))]∧aC::Z0::H=aC::Z0::H) (Tr.ok ((AV.slc 0 0 v 0 1 m none,none),Z0::H)))) { lock:=false,bs:=[(v,ak.row (Row.M [aL.arr .i64 a m]))] }:=by kernel_rfl
theorem RF:∀ b,(0,b) ∈ bc (bZ Tryz.f97)→b=.loop (part Tryz.f97 [1,1,0,1,0,0]):=jj (by kernel_rfl)
theorem Oq:∀ b,(2,b) ∈ bc (part Tryz.f97 [1,1,0,1,0,0])→b=.loop (part Tryz.f97 [1,1,0,1,0,0,1,0,0,1,0,1,0,1,0,0]):=jj (by kernel_rfl)
def oU (a:Nat→Int):Nat→List Int
 | 0=>[]
 | j+1=>if j=0∨a j≠a (j-1) then oU a j++[a j] else oU a j
noncomputable def iB (a:Nat→Int) (k0:Nat):Nat→(Nat→Int)×Nat
 | 0=>(a,k0)
 | i+1=>if (iB a k0 i).1 (k0+(i+1))≠(iB a k0 i).1 (k0+i) then (iw (iB a k0 i).1 (iB a k0 i).2 ((iB a k0 i).1 (k0+(i+1))),(iB a k0 i).2+1) else iB a k0 i
theorem wT (a:Nat→Int):∀ j,(oU a j).length≤j
 | 0=>Nat.le_refl _
 | j+1=>by
   have:=wT a j
   unfold oU
   split
   · rw[List.length_append,List.length_singleton];omega
   · omega
theorem wU (a:Nat→Int):∀ k,(∀ j,j+1<k→a (j+1)≠a j)→oU a k=(List.range k).map a
 | 0,_=>rfl
 | k + 1,h=>by
   unfold oU
   rw[if_pos,wU a k (fun j hj=>h j (by omega)),List.range_succ,List.map_append]
   · rfl
   · by_cases e:k=0
     · exact .inl e
     · have:=h (k-1) (by omega)
       rw[show k-1+1=k by omega] at this
       exact .inr this
theorem nj {a:Nat→Int} {k0:Nat} (hk:1≤k0) (hd:a k0=a (k0-1)) (hn:∀ j,j+1<k0→a (j+1)≠a j):∀ i,(iB a k0 i).2=(oU a (k0+i+1)).length∧(∀ x,x<(iB a k0 i).2→(iB a k0 i).1 x=(oU a (k0+i+1)).getD x 0)∧(∀ x,k0+i≤x→(iB a k0 i).1 x=a x)∧(iB a k0 i).2≤k0+i
 | 0 => by
   have e:oU a (k0+0+1)=oU a k0:=by
    have hnc:¬(k0=0∨a k0≠a (k0-1)):=by
     rintro (c | c)
     · omega
     · exact c hd
    exact if_neg hnc
   rw[e,wU a k0 hn]
   refine ⟨by simp[iB],fun x hx=>?_,fun x _=>rfl,Nat.le_refl _⟩
   have hx:x<k0:=hx
   rw[List.getD_eq_getElem?_getD,List.getElem?_map,List.getElem?_range hx]
   rfl
 | i + 1=>by
   obtain ⟨i1,i2,i3,i4⟩:=nj hk hd hn i
   have r1:=i3 (k0+(i+1)) (by omega)
   have r2:=i3 (k0+i) (Nat.le_refl _)
   have e:oU a (k0+(i+1)+1)=if a (k0+(i+1))≠a (k0+i) then oU a (k0+i+1)++[a (k0+(i+1))] else oU a (k0+i+1):=by
    show (if k0+(i+1)=0∨a (k0+(i+1))≠a (k0+(i+1)-1) then oU a (k0+(i+1))++_ else oU a (k0+(i+1)))=_
    rw[show k0+(i+1)-1=k0+i by omega,show k0+(i+1)=k0+i+1 by omega]
    by_cases c:a (k0+i+1)≠a (k0+i)
    · rw[if_pos (.inr c),if_pos c]
    · rw[if_neg (by rintro (d | d);omega;exact c d),if_neg c]
   have es:iB a k0 (i+1)=if a (k0+(i+1))≠a (k0+i) then (iw (iB a k0 i).1 (iB a k0 i).2 (a (k0+(i+1))),(iB a k0 i).2+1) else iB a k0 i:=by
    show (if (iB a k0 i).1 (k0+(i+1))≠(iB a k0 i).1 (k0+i) then (iw (iB a k0 i).1 (iB a k0 i).2 ((iB a k0 i).1 (k0+(i+1))),_) else _)=_
    rw[r1,r2]
   rw[e,es]
   by_cases c:a (k0+(i+1))≠a (k0+i)
   · rw[if_pos c,if_pos c]
     refine ⟨by rw[List.length_append,List.length_singleton,i1],fun x hx=>?_,fun x hx=>?_,by show (iB a k0 i).2+1≤_;omega⟩
     · have hx:x<(iB a k0 i).2+1:=hx
       show iw _ _ _ x=_
       rw[j5]
       dsimp only
       rw[List.getD_eq_getElem?_getD]
       by_cases ex:x=(iB a k0 i).2
       · rw[if_pos ex,List.getElem?_append_right (by omega),← i1,ex,Nat.sub_self];rfl
       · rw[if_neg ex,i2 x (by omega),List.getElem?_append_left (by omega),List.getD_eq_getElem?_getD]
     · show iw _ _ _ x=_
       rw[j5]
       dsimp only
       rw[if_neg (by omega)]
       exact i3 x (by omega)
   · rw[if_neg c,if_neg c]
     exact ⟨i1,i2,fun x hx=>i3 x (by omega),by omega⟩
section
variable (n v m:Nat) (a:Nat→Int) (H:aa)
theorem P7 (k0:Nat) (hk:1≤k0) (hm:k0<m) (h2:m≤1000) (hd:a k0=a (k0-1)) (hn:∀ j,j+1<k0→a (j+1)≠a j):exec (bp n 97 61) (.block 2 (.loop (part Tryz.f97 [1,1,0,1,0,0,1,0,0,1,0,1,0,1,0,0]))) (rq v m k0 (m-k0) (k0:Nat) (Int.ofNat 1)) (aC::⟨false,[(v,.row (.M [.arr .i64 a m]))]⟩::H) =
 some (.normal,rq v m k0 (m-k0) ((iB a k0 (m-k0-1)).2:Nat) (Int.ofNat (m-k0))++[(32,.bool false)],aC::⟨false,[(v,.row (.M [.arr .i64 (iB a k0 (m-k0-1)).1 m]))]⟩::H):=by
 refine j9 2 (fun j=>rq v m k0 (m-k0) ((iB a k0 j).2:Nat) ((j+1:Nat):Int)) (fun j=>aC::⟨false,[(v,.row (.M [.arr .i64 (iB a k0 j).1 m]))]⟩::H) (m-k0-1) (rq v m k0 (m-k0) ((iB a k0 (m-k0-1)).2:Nat) (Int.ofNat (m-k0))++[(32,.bool false)],aC::⟨false,[(v,.row (.M [.arr .i64 (iB a k0 (m-k0-1)).1 m]))]⟩::H) (by omega) (fun j hj=>?_) ?_
 · obtain ⟨_,_,_,i4⟩:=nj hk hd hn j
   have es:iB a k0 (j+1)=if (iB a k0 j).1 (k0+(j+1))≠(iB a k0 j).1 (k0+j) then (iw (iB a k0 j).1 (iB a k0 j).2 ((iB a k0 j).1 (k0+(j+1))),(iB a k0 j).2+1) else iB a k0 j:=rfl
   generalize iB a k0 (j+1)=T at *
   generalize iB a k0 j=S0 at *
   obtain ⟨r,k⟩:=S0
   dsimp only at es i4 ⊢
   refine aD (NF n v m k0 (m-k0) r H (k:Nat) ((j+1:Nat):Int)) (aI n) (af _ _) (ag _ _) ?_
   have e1:au k0 ((j+1:Nat):Int) 1=k0+(j+1):=by rw[bB];omega
   have e2:eO .i64 ((j+1:Nat):Int) (Int.ofNat 1)=(j:Int):=by rw[gE,show Int.ofNat 1=1 from rfl,cr (by omega) (by omega)];omega
   have e3:au k0 (j:Int) 1=k0+j:=by rw[bB];omega
   have e4:au 0 (k:Int) 1=k:=Hr k
   have e5:aK .i64 ((j+1:Nat):Int) (Int.ofNat 1)=((j+1+1:Nat):Int):=rV (by omega)
   have e6:aK .i64 (k:Int) (Int.ofNat 1)=((k+1:Nat):Int):=rV (by omega)
   rw[e1,e2,e3,e4,e5,e6,cn]
   by_cases c:r (k0+(j+1))=r (k0+j)
   · rw[if_neg (by simpa using c)] at es
     subst es
     rw[show (r (k0+(j+1)) == r (k0+j))=true from beq_iff_eq.2 c]
     exact wF
   · rw[if_pos c] at es
     subst es
     rw[show (r (k0+(j+1)) == r (k0+j))=false from beq_eq_false_iff_ne.2 c]
     exact wF
 · obtain ⟨_,_,_,i4⟩:=nj hk hd hn (m-k0-1)
   rw[show m-k0-1+1=m-k0 by omega]
   obtain ⟨x,h1,rfl⟩:=aD (Q:=fun x=>x=(.exit 2,rq v m k0 (m-k0) ((iB a k0 (m-k0-1)).2:Nat) (Int.ofNat (m-k0))++[(32,.bool false)],aC::⟨false,[(v,.row (.M [.arr .i64 (iB a k0 (m-k0-1)).1 m]))]⟩::H)) (NF n v m k0 (m-k0) (iB a k0 (m-k0-1)).1 H ((iB a k0 (m-k0-1)).2:Nat) (Int.ofNat (m-k0))) (aI n) (af _ _) (ag _ _) (by
    exact wF)
   exact h1
theorem Kc {n f nt:Nat} {c:Code} (id:Nat) (F:Nat→ay) (G:Nat→aa) (N:Nat) (p:Nat→Bool) (X:Nat→ay×aa) (Y:ay×aa) (hN:N<99999)
 (hs:∀ j,j<N→(∀ i,i<j→p i=false)→∃ x,exec (bp n f nt) c (F j) (G j)=some x∧if p j=true then x=(.ret,X j) else x.1=.normal∧tidy (ao (G 0)) x.2.1 x.2.2=(F (j+1),G (j+1)))
 (he:exec (bp n f nt) c (F N) (G N)=some (.exit id,Y)):exec (bp n f nt) (.block id (.loop c)) (F 0) (G 0)=some (cond (iA p N) (.ret,X (fN p N 0)) (.normal,Y)):=by
 cases hc:iA p N with
 | false =>
   have hno:∀ j,j<N→p j=false:=fun j hj=>by
    cases h:p j with
    | false=>rfl
    | true=>rw[(eI p N).2 ⟨j,hj,h⟩] at hc;cases hc
   refine j9 id F G N Y hN (fun j hj=>?_) he
   obtain ⟨x,h1,h2⟩:=hs j hj (fun i hi=>hno i (by omega))
   rw[if_neg (by rw[hno j hj];decide)] at h2
   exact ⟨x,h1,h2⟩
 | true =>
   have hJ:=kH hc
   obtain ⟨_,_,k3,k4⟩:=iP p N 0
   have k4:=k4 (by omega)
   have k3:∀ i,i<fN p N 0→p i=false:=fun i hi=>k3 i (Nat.zero_le _) hi
   obtain ⟨x,h1,h2⟩:=hs _ hJ k3
   rw[if_pos k4] at h2
   subst h2
   have e0:iA (fun _=>false) (fN p N 0)=false:=by
    cases h:iA (fun _=>false) (fN p N 0) with
    | false=>rfl
    | true=>obtain ⟨_,_,h⟩:=(eI _ _).1 h;cases h
   have key:=qE (body:=exec (bp n f nt) c) (n:=ao (G 0)) F G (fN p N 0) (fun _=>false) (fun _=>(.ret,X (fN p N 0)))
    (fun j hj _=>by
      obtain ⟨x,h1,h2⟩:=hs j (by omega) (fun i hi=>k3 i (by omega))
      rw[if_neg (by rw[k3 j hj];decide)] at h2
      obtain ⟨e,f1,g1⟩:=x
      obtain ⟨rfl,h3⟩:=h2
      exact ⟨_,_,h1,h3⟩)
    (fun j hj hp=>by cases hp) ⟨h1,by simp⟩ (fN p N 0) 0 100000 (by omega) (by omega)
   exact gM (fun id' h=>by cases h) key
noncomputable def uI (a:Nat→Int) (m j:Nat):Nat:=(iB a (j+1) (m-(j+1)-1)).2
noncomputable def GO (a:Nat→Int) (m j:Nat):Nat→Int:=fK (iB a (j+1) (m-(j+1)-1)).1 (uI a m j) (fun x=>Int.ofNat 0) (m-uI a m j)
def Dx (a:Nat→Int) (j:Nat):Bool:=decide (a (j+1)=a j)
theorem T5 (hm:2≤m) (h2:m≤1000):exec (bp n 97 61) (.block 0 (.loop (part Tryz.f97 [1,1,0,1,0,0]))) (oj v m (Int.ofNat 1)) (aC::⟨false,[(v,.row (.M [.arr .i64 a m]))]⟩::H) =
 some (cond (iA (Dx a) (m-1)) (.ret,[(2,.slc 1 0 v 0 1 (uI a m (fN (Dx a) (m-1) 0)) none)],aC::⟨false,[(v,.row (.M [.arr .i64 (GO a m (fN (Dx a) (m-1) 0)) m]))]⟩::H) (.normal,oj v m (Int.ofNat m)++[(13,.bool false)],aC::⟨false,[(v,.row (.M [.arr .i64 a m]))]⟩::H)):=by
 have key:∀ j,j<m-1→(∀ i,i<j→Dx a i=false)→∃ x,exec (bp n 97 61) (part Tryz.f97 [1,1,0,1,0,0]) (oj v m ((j+1:Nat):Int)) (aC::⟨false,[(v,.row (.M [.arr .i64 a m]))]⟩::H)=some x∧if Dx a j=true then x=(.ret,[(2,.slc 1 0 v 0 1 (uI a m j) none)],aC::⟨false,[(v,.row (.M [.arr .i64 (GO a m j) m]))]⟩::H) else x.1=.normal∧tidy (ao (aC::⟨false,[(v,.row (.M [.arr .i64 a m]))]⟩::H)) x.2.1 x.2.2=(oj v m ((j+1+1:Nat):Int),aC::⟨false,[(v,.row (.M [.arr .i64 a m]))]⟩::H):=by
  intro j hj hno
  have e2:eO .i64 ((j+1:Nat):Int) (Int.ofNat 1)=(j:Int):=by rw[gE,show Int.ofNat 1=1 from rfl,cr (by omega) (by omega)];omega
  have e3:au 0 ((j+1:Nat):Int) 1=j+1:=Hr (j+1)
  have e4:au 0 (j:Int) 1=j:=Hr j
  have e5:aK .i64 ((j+1:Nat):Int) (Int.ofNat 1)=((j+1+1:Nat):Int):=rV (by omega)
  have e7:ah 0 (dB ((j+1:Nat):Int))=j+1:=by rw[aU,fR];omega
  have e8:dg m (dB ((j+1:Nat):Int))=m-(j+1):=by rw[gF,fR];omega
  cases hp:Dx a j with
  | true =>
    have hd:a (j+1)=a j:=of_decide_eq_true hp
    have hn:∀ i,i+1<j+1→a (i+1)≠a i:=fun i hi=>of_decide_eq_false (hno i (by omega))
    have hx:=P7 n v m a H (j+1) (by omega) (by omega) h2 hd hn
    obtain ⟨_,_,_,i4⟩:=nj (a:=a) (k0:=j+1) (by omega) hd hn (m-(j+1)-1)
    have hK:uI a m j<m:=by unfold uI;omega
    have eK:(iB a (j+1) (m-(j+1)-1)).2=uI a m j:=rfl
    have e9:ah 0 (dB ((uI a m j:Nat):Int))=uI a m j:=by rw[aU,fR];omega
    have e10:dg m (dB ((uI a m j:Nat):Int))=m-uI a m j:=by rw[gF,fR];omega
    have e11:dB ((uI a m j:Nat):Int)=uI a m j:=by rw[fR];omega
    obtain ⟨y,y1,y2⟩:=aD (Q:=fun x=>x=(.ret,[(2,.slc 1 0 v 0 1 (uI a m j) none)],aC::⟨false,[(v,.row (.M [.arr .i64 (GO a m j) m]))]⟩::H)) (QU n v m (j+1) (m-(j+1)) a (iB a (j+1) (m-(j+1)-1)).1 H ((j+1:Nat):Int) ((uI a m j:Nat):Int)) (aI n) (bz (af _ _) Oq (fun x hx2=>by rw[← Tr.ab hx2];simp only[gi.st,aP];exact hx)) (ag _ _) (by
     rw[e2,e3,e4,e5,e7,e8,e9,e10,e11,cn,show (a (j+1) == a j)=true from beq_iff_eq.2 hd]
     have eG:fK (iB a (j+1) (m-(j+1)-1)).1 (uI a m j) (fun x=>Int.ofNat 0) (m-uI a m j)=GO a m j:=rfl
     rw[eG]
     generalize GO a m j=G at *
     generalize uI a m j=K at *
     exact wF)
    exact ⟨y,y1,by rw[if_pos rfl];exact y2⟩
  | false =>
    have hd:a (j+1)≠a j:=of_decide_eq_false hp
    obtain ⟨y,y1,y2⟩:=aD (Q:=fun x=>x.1=.normal∧tidy (ao (aC::⟨false,[(v,.row (.M [.arr .i64 a m]))]⟩::H)) x.2.1 x.2.2=(oj v m ((j+1+1:Nat):Int),aC::⟨false,[(v,.row (.M [.arr .i64 a m]))]⟩::H)) (Jt n v m a H ((j+1:Nat):Int)) (aI n) (iv (af _ _) 2) (ag _ _) (by
     rw[e2,e3,e4,e5,cn,show (a (j+1) == a j)=false from beq_eq_false_iff_ne.2 hd]
     exact wF)
    exact ⟨y,y1,by rw[if_neg (by decide)];exact y2⟩
 have he:exec (bp n 97 61) (part Tryz.f97 [1,1,0,1,0,0]) (oj v m ((m-1+1:Nat):Int)) (aC::⟨false,[(v,.row (.M [.arr .i64 a m]))]⟩::H)=some (.exit 0,oj v m (Int.ofNat m)++[(13,.bool false)],aC::⟨false,[(v,.row (.M [.arr .i64 a m]))]⟩::H):=by
  rw[show m-1+1=m by omega]
  obtain ⟨x,h1,rfl⟩:=aD (Q:=fun x=>x=(.exit 0,oj v m (Int.ofNat m)++[(13,.bool false)],aC::⟨false,[(v,.row (.M [.arr .i64 a m]))]⟩::H)) (Jt n v m a H (Int.ofNat m)) (aI n) (iv (af _ _) 2) (ag _ _) (by
   exact wF)
  exact h1
 exact Kc 0 (fun j=>oj v m ((j+1:Nat):Int)) (fun _=>aC::⟨false,[(v,.row (.M [.arr .i64 a m]))]⟩::H) (m-1) (Dx a) (fun j=>([(2,.slc 1 0 v 0 1 (uI a m j) none)],aC::⟨false,[(v,.row (.M [.arr .i64 (GO a m j) m]))]⟩::H)) (oj v m (Int.ofNat m)++[(13,.bool false)],aC::⟨false,[(v,.row (.M [.arr .i64 a m]))]⟩::H) (by omega) key he
end
theorem OH (m:Nat) (a:Nat→Int) (hm:1≤m) (h2:m≤1000):∃ g,(∀ i,i<(oU a m).length→g i=(oU a m).getD i 0)∧∀ n v H,cd (n+1) (.fn 97) [.slc 0 0 v 0 1 m none] (⟨false,[(v,.row (.M [.arr .i64 a m]))]⟩::H)=some (.slc 0 0 v 0 1 (oU a m).length none,⟨false,[(v,.row (.M [.arr .i64 g m]))]⟩::H):=by
 by_cases h1:m<2
 · obtain rfl:m=1:=by omega
   have e:oU a 1=[a 0]:=rfl
   refine ⟨a,fun i hi=>?_,fun n v H=>?_⟩
   · rw[e] at hi ⊢
     simp at hi
     subst hi;rfl
   · rw[e]
     refine ba (n:=n) Tryz.func97 rfl rfl rfl (Rp n v 1 a H) (aI n) (iv (af _ _) 0) (ag _ _) ?_
     exact wF
 have hx:=fun n v H=>T5 n v m a H (by omega) h2
 cases hc:iA (Dx a) (m-1) with
 | false =>
   have hno:∀ j,j+1<m→a (j+1)≠a j:=fun j hj=>by
    have:=jS (by rw[hc];decide) j (show j<m-1 by omega)
    exact of_decide_eq_false this
   have e:=wU a m hno
   have el:(oU a m).length=m:=by rw[e];simp
   rw[hc] at hx
   simp only[cond_false] at hx
   refine ⟨a,fun i hi=>?_,fun n v H=>?_⟩
   · rw[el] at hi
     rw[e,List.getD_eq_getElem?_getD,List.getElem?_map,List.getElem?_range hi];rfl
   · rw[el]
     refine ba (n:=n) Tryz.func97 rfl rfl rfl (Ro n v m a H) (aI n) (bz (af _ _) RF (fun x h=>by rw[← Tr.ab h];simp only[gi.st,aP];exact hx n v H)) (ag _ _) ?_
     exact wF
 | true =>
   have hJ:=kH hc
   obtain ⟨_,_,k3,k4⟩:=iP (Dx a) (m-1) 0
   have k4:=k4 (by omega)
   have hd:a (fN (Dx a) (m-1) 0+1)=a (fN (Dx a) (m-1) 0):=of_decide_eq_true k4
   have hn:∀ i,i+1<fN (Dx a) (m-1) 0+1→a (i+1)≠a i:=fun i hi=>of_decide_eq_false (k3 i (Nat.zero_le _) (by omega))
   rw[hc] at hx
   simp only[cond_true] at hx
   generalize fN (Dx a) (m-1) 0=J at *
   obtain ⟨i1,i2,_,i4⟩:=nj (a:=a) (k0:=J+1) (by omega) hd hn (m-(J+1)-1)
   have eK:(iB a (J+1) (m-(J+1)-1)).2=uI a m J:=rfl
   rw[show J+1+(m-(J+1)-1)+1=m by omega] at i1 i2
   rw[eK] at i1 i2
   refine ⟨GO a m J,fun i hi=>?_,fun n v H=>?_⟩
   · rw[← i1] at hi
     unfold GO
     rw[jR]
     unfold qk
     rw[if_neg (by omega)]
     exact i2 i hi
   · rw[← i1]
     refine ba (n:=n) Tryz.func97 rfl rfl rfl (Rn n v m a (GO a m J) H (uI a m J)) (aI n) (bz (af _ _) RF (fun x h=>by rw[← Tr.ab h];simp only[gi.st,aP];exact hx n v H)) (ag _ _) ?_
     generalize GO a m J=G at *
     generalize uI a m J=K at *
     exact wF
end Go.Eng
end
