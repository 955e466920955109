/- Bath: what a bath adds to one before it. -/
import Derived.Test.YtigmfpmabgekoaaGreatV11Bc5x23
set_option linter.unusedVariables false
set_option linter.unusedSimpArgs false
set_option maxRecDepth 100000
section
namespace Go.Eng
open Go.Proofs
noncomputable def JI (B:AV) (m:Int→Nat→Int):List AV→Option (Prop×AV)
 | [A,.int .i64 q]=>some (A=B,.agg (.M [.arr .i64 (m q) 14]))
 | _=>none
noncomputable def ym (l:Nat) (y:Nat→Int) (a j:Int):av:=[(9,.ptr 0 0 0 0),(10,.ptr 0 1 0 0),(11,.int .i64 a),(35,aJ 7 l y),(36,.int .i64 (Int.ofNat l)),(37,.int .i64 j)]
noncomputable def yZ (a b:Nat→Int):bn:=⟨false,[(0,.row (.M [.arr .i64 a 14])),(0,.row (.M [.arr .i64 b 14]))]⟩
theorem t93 (n l:Nat) (y a b:Nat→Int) (H:aa) (s j:Int):aX (bz n 93 56) (il aU n 0) aZ a6 (part Tryz.f93 [1,1,1,1,1,0,1,0,0]) (hints (ym l y s j)) (yZ a b::H) =
 (fun (Z0:bn)=>Tr.ite (dq j (Int.ofNat l)) (Tr.req (dF j l) (Tr.req (bA (ar 0 j 7) (aD l 7)) (Tr.req (bA (af (ar 0 j 7) 1) (aD l 7)) (Tr.req (bA (af (ar 0 j 7) 2) (aD l 7)) (Tr.req (bA (af (ar 0 j 7) 3) (aD l 7)) (Tr.req (bA (af (ar 0 j 7) 4) (aD l 7)) (Tr.req (bA (af (ar 0 j 7) 5) (aD l 7)) (Tr.req (bA (af (ar 0 j 7) 6) (aD l 7)) (Tr.req (dF j 14) (Tr.req (bX 0 0) (Tr.req (bA (ar 0 j 1) 14) (Tr.req (dF j 14) (Tr.req (bX 0 0) (Tr.req (bA (ar 0 j 1) 14) (Tr.ite (dq (b (ar 0 j 1)) (a (ar 0 j 1))) (Tr.ok (Ex.normal,[(9,AV.ptr 0 0 0 0,none),(10,AV.ptr 0 1 0 0,none),(11,AV.int .i64 (a8 .i64 s (y (af (ar 0 j 7) 4))),none),(35,aJ 7 l y,none),(36,AV.int .i64 (Int.ofNat l),none),(37,AV.int .i64 (a8 .i64 j (Int.ofNat 1)),none)],Z0::H)) (Tr.ok (Ex.normal,[(9,AV.ptr 0 0 0 0,none),(10,AV.ptr 0 1 0 0,none),(11,AV.int .i64 s,none),(35,aJ 7 l y,none),(36,AV.int .i64 (Int.ofNat l),none),(37,AV.int .i64 (a8 .i64 j (Int.ofNat 1)),none)],Z0::H))))))))))))))))) (Tr.ok (Ex.exit 0,[(9,AV.ptr 0 0 0 0,none),(10,AV.ptr 0 1 0 0,none),(11,AV.int .i64 s,none),(35,aJ 7 l y,none),(36,AV.int .i64 (Int.ofNat l),none),(37,AV.int .i64 j,none),(38,AV.bool false,some 1)],{ lock:=false,bs:=[(0,ak.row (Row.M [aW.arr .i64 a 14])),(0,ak.row (Row.M [aW.arr .i64 b 14]))] } :: H))) { lock:=false,bs:=[(0,ak.row (Row.M [aW.arr .i64 a 14])),(0,ak.row (Row.M [aW.arr .i64 b 14])),(0,ak.row (Row.I .i64 [y (ar 0 j 7),y (af (ar 0 j 7) 1),y (af (ar 0 j 7) 2),y (af (ar 0 j 7) 3),y (af (ar 0 j 7) 4),y (af (ar 0 j 7) 5),y (af (ar 0 j 7) 6)]))] }:=by kernel_rfl
theorem Nc (n s l k:Nat) (y P a b:Nat→Int) (m:Int→Nat→Int) (H:aa) (f p x:Int):bw Tryz.prog (cd n) 100000 93 Tryz.f93 (KtB.kt 93) (il (lg aU 56 (JI (iJ (s+1) l y) m)) n 0) (gf aZ 0 (ym l y (Int.ofNat 0) (Int.ofNat 0)) (yZ a b::H) (.ok (.normal,hints (ym l y x (Int.ofNat l)++[(38,.bool false)]),yZ a b::H))) a6 [(iJ s l y,none),(cI k P false,none),(.int .i64 f,none),(.int .i64 p,none)] H =
 (fun (Z0:av)=>((fun (Z1:bn)=>((fun (Z2:Prop)=>((fun (Z3:Nat×ak)=>Tr.req (dF p k) (Tr.req (bA (ar 0 p 1) k) (Tr.reqP Z2 (Tr.req (lX 0 14 0 14) (Tr.req (lX 0 14 0 14) (Tr.ite (mP (Int.ofNat 0) f) (Tr.req (dF f k) (Tr.req (bA (ar 0 f 1) k) (Tr.reqP Z2 (Tr.req (lX 0 14 0 14) (Tr.ite (kV (fH (fun x=>Int.ofNat 0) 0 (m (P (ar 0 p 1))) 14) (fH (fH (fun x=>Int.ofNat 0) 0 (fun x=>Int.ofNat 0) 14) 0 (m (P (ar 0 f 1))) 14) 14) (Tr.ok ((AV.int .i64 (Int.ofNat 0),some 1),H)) (Tr.reqP (Z0=Z0∧{ lock:=false,bs:=[Z3,(0,ak.row (Row.M [aW.arr .i64 (fH (fH (fun x=>Int.ofNat 0) 0 (fun x=>Int.ofNat 0) 14) 0 (m (P (ar 0 f 1))) 14) 14]))] } :: H=Z1::H) (Tr.ok ((AV.int .i64 x,none),H)))))))) (Tr.ite (kV (fH (fun x=>Int.ofNat 0) 0 (m (P (ar 0 p 1))) 14) (fH (fun x=>Int.ofNat 0) 0 (fun x=>Int.ofNat 0) 14) 14) (Tr.ok ((AV.int .i64 (Int.ofNat 0),some 1),H)) (Tr.reqP (Z0=Z0∧{ lock:=false,bs:=[Z3,(0,ak.row (Row.M [aW.arr .i64 (fH (fun x=>Int.ofNat 0) 0 (fun x=>Int.ofNat 0) 14) 14]))] } :: H=Z1::H) (Tr.ok ((AV.int .i64 x,none),H)))))))))) (0,ak.row (Row.M [aW.arr .i64 (fH (fun x=>Int.ofNat 0) 0 (m (P (ar 0 p 1))) 14) 14])))) (AV.ptrT (some (Nat.succ s)) (Row.G [aJ 7 l y]) 0=AV.ptrT (some (Nat.succ s)) (Row.G [aJ 7 l y]) 0))) { lock:=false,bs:=[(0,ak.row (Row.M [aW.arr .i64 a 14])),(0,ak.row (Row.M [aW.arr .i64 b 14]))] })) [(9,AV.ptr 0 0 0 0),(10,AV.ptr 0 1 0 0),(11,AV.int .i64 (Int.ofNat 0)),(35,aJ 7 l y),(36,AV.int .i64 (Int.ofNat l)),(37,AV.int .i64 (Int.ofNat 0))]:=by kernel_rfl
theorem QR:∀ b,(0,b) ∈ bo (ct Tryz.f93)→b=.loop (part Tryz.f93 [1,1,1,1,1,0,1,0,0]):=kX (by kernel_rfl)
def gI (z:Nat→Int) (i:Nat):Int:=z (i*5+4)
def wc (a b w:Nat→Int) (j:Nat):Int:=rF (fun i=>if b i<a i then w i else 0) j
theorem DU {a b w:Nat→Int} {B:Int} (hB:0≤B):∀ j,(∀ i,i<j→0≤w i∧w i≤B)→0≤wc a b w j∧wc a b w j≤(j:Int)*B
 | 0,_=>⟨Int.le_refl _,by show (0:Int)≤((0:Nat):Int)*B;simp⟩
 | j+1,h=>by
   obtain ⟨i1,i2⟩:=DU (a:=a) (b:=b) hB j (fun i hi=>h i (by omega))
   have hj:=h j (by omega)
   have e:((j+1:Nat):Int)*B=(j:Int)*B+B:=by rw[show ((j+1:Nat):Int)=(j:Int)+1 from rfl,Int.add_mul,Int.one_mul]
   rw[e]
   show 0≤wc a b w j+(if b j<a j then w j else 0)∧wc a b w j+(if b j<a j then w j else 0)≤_
   split<;>omega
section
variable (n s l k:Nat) (z P:Nat→Int) (H:aa)
theorem Q4 (a b:Nat→Int) (h:bp l z=0):exec (bz n 93 56) (.block 0 (.loop (part Tryz.f93 [1,1,1,1,1,0,1,0,0]))) (ym l (oY z l) (Int.ofNat 0) (Int.ofNat 0)) (yZ a b::H)=some (.normal,ym l (oY z l) (wc a b (gI z) l) (Int.ofNat l)++[(38,.bool false)],yZ a b::H):=by
 obtain ⟨hl,hz⟩:=bM h
 refine nD 0 (fun j=>ym l (oY z l) (wc a b (gI z) j) (j:Int)) (fun _=>yZ a b::H) l (ym l (oY z l) (wc a b (gI z) l) (Int.ofNat l)++[(38,.bool false)],yZ a b::H) (by omega) (fun j hj=>?_) ?_
 · have ej:a8 .i64 (j:Int) (Int.ofNat 1)=((j+1:Nat):Int):=wx (by omega)
   have ei:ar 0 (j:Int) 7=j*7:=by rw[bC];omega
   have ei1:ar 0 (j:Int) 1=j:=GV j
   have h4:oY z l (j*7+4)=gI z j:=nL z (by omega) (by omega)
   have hw:∀ i,i<j+1→0≤gI z i∧gI z i≤100000:=fun i hi=>by
    have:=hz i (by omega)
    unfold gI;omega
   obtain ⟨r1,r2⟩:=DU (a:=a) (b:=b) (w:=gI z) (by decide) j (fun i hi=>hw i (by omega))
   have r3:=hw j (by omega)
   have hs:wc a b (gI z) (j+1)=wc a b (gI z) j+(if b j<a j then gI z j else 0):=rfl
   refine aG (t93 n l (oY z l) a b H (wc a b (gI z) j) (j:Int)) (aO n) (ag _ _) (ah _ _) ?_
   simp only[ei,aQ]
   rw[ej,ei1,h4]
   have ea:a8 .i64 (wc a b (gI z) j) (gI z j)=wc a b (gI z) j+gI z j:=by rw[bV];exact cK (by omega) (by omega)
   rw[ea]
   generalize wc a b (gI z) (j+1)=t at *
   generalize wc a b (gI z) j=t0 at *
   generalize gI z j=wj at *
   repeat' first | (refine Tr.al (fun hc=>?_) (fun hc=>?_)<;>(try simp (disch:=omega) only[nV,nW] at hc)<;>(try (exfalso;omega))) | (refine Tr.bf ?_ ?_;· ((try simp (disch:=omega) only[nV,nW]);try omega)) | (refine Tr.ay ?_ ?_;· first | exact trivial | rfl | exact ⟨rfl,rfl⟩ | exact ⟨trivial,rfl⟩ | exact ⟨rfl,by assumption⟩ | exact ⟨trivial,by assumption⟩ | exact ⟨rfl,rfl,rfl⟩ | (simp (disch:=omega) only[nV,nW];done) | ((try simp (disch:=omega) only[nV,nW]);omega)) | fail
   all_goals first
    | (rw[if_pos (by omega)] at hs;subst hs;exact Tr.aw ⟨rfl,rfl⟩)
    | (rw[if_neg (by omega),Int.add_zero] at hs;subst hs;exact Tr.aw ⟨rfl,rfl⟩)
    | fail
 · obtain ⟨x,h1,rfl⟩:=aG (Q:=fun x=>x=(.exit 0,ym l (oY z l) (wc a b (gI z) l) (Int.ofNat l)++[(38,.bool false)],yZ a b::H)) (t93 n l (oY z l) a b H (wc a b (gI z) l) (Int.ofNat l)) (aO n) (ag _ _) (ah _ _) (by
    exact wF)
   exact h1
theorem Jq {g m:Nat→Int} (hg:∀ i,14≤i→g i=0) (hm:∀ i,14≤i→m i=0):fH g 0 m 14=m:=by
 rw[lf];funext i;unfold rJ
 by_cases hi:i<14
 · simp[hi]
 · rw[if_neg (by omega),hg i (by omega),hm i (by omega)]
theorem Fh {q:Int} (hl:l≤14):∀ i,14≤i→jA z q l i=0:=fun i hi=>by
 unfold jA;rw[if_neg (by omega)]
theorem Iz {c:Nat} {t:mb} (h:bp l z=0) (ht:t.Ok (cd (c+2))):(lg t 56 (JI (iJ s l (oY z l)) fun q=>jA z q l)).Ok (cd (c+2)):=by
 refine fI ht (fun args p v hg hp H=>?_)
 unfold JI at hg
 split at hg
 · simp only[nP] at hg
   obtain ⟨rfl,rfl⟩:=hg
   subst hp
   exact NO c s l z H _ h
 · cases hg
noncomputable def eM (l:Nat) (z P:Nat→Int) (f p:Int):Int:=xL l (cQ z) (bU z) (gI z) P f p
theorem IM {q r:Int} (i:Nat) (hi:i<l):(jA z r l i<jA z q l i)↔(jY (cQ z) (bU z) q i=true∧jY (cQ z) (bU z) r i=false):=by
 have e1:jY (cQ z) (bU z) q i=wA z q i:=rfl
 have e2:jY (cQ z) (bU z) r i=wA z r i:=rfl
 rw[e1,e2]
 unfold jA
 cases wA z q i<;>cases wA z r i<;>simp[hi]
theorem It {f p:Int} (hf:0≤f):wc (jA z (P p.toNat) l) (jA z (P f.toNat) l) (gI z) l=eM l z P f p:=gU l (fun i hi=>by
 rw[if_neg (show ¬ f=-1 by omega)]
 by_cases c:jA z (P f.toNat) l i<jA z (P p.toNat) l i
 · rw[if_pos c,if_pos ((IM l z i hi).1 c)]
 · rw[if_neg c,if_neg (fun x=>c ((IM l z i hi).2 x))])
theorem Is {p:Int}:wc (jA z (P p.toNat) l) (fun _=>0) (gI z) l=eM l z P (-1) p:=gU l (fun i hi=>by
 rw[if_pos rfl]
 have e1:jY (cQ z) (bU z) (P p.toNat) i=wA z (P p.toNat) i:=rfl
 have e2:(0<jA z (P p.toNat) l i)↔wA z (P p.toNat) i=true:=by
  unfold jA;cases wA z (P p.toNat) i<;>simp[hi]
 rw[e1]
 by_cases c:0<jA z (P p.toNat) l i
 · rw[if_pos c,if_pos ⟨e2.1 c,rfl⟩]
 · rw[if_neg c,if_neg (fun x=>c (e2.2 x.1))])
theorem xQ {a b w:Nat→Int} {j:Nat} (h:∀ i,i<j→a i=b i):wc a b w j=0:=zV (fun i hi=>by rw[if_neg (by rw[h i hi];omega)])
theorem Gq (z y:Nat→Int) (n:Nat):kV z y n=true↔∀ j,j<n→z j=y j:=by
 rw[uR]
 induction n with
 | zero=>simp[allEq]
 | succ n ih =>
   simp only[allEq,Bool.and_eq_true,beq_iff_eq,ih]
   constructor
   · rintro ⟨h1,h2⟩ j hj
     by_cases e:j=n
     · subst e;exact h2
     · exact h1 j (by omega)
   · exact fun h=>⟨fun j hj=>h j (by omega),h n (by omega)⟩
theorem Br (x y:Nat→Int) (m:Nat) (h:kV x y m=true):∀ j,j<m→x j=y j:=(Gq x y m).1 h
theorem Rt (f p:Int) (h:bp l z=0) (hk:k≤1000) (hf:-1≤f∧f<k) (hp:0≤p∧p<k):cd (n+3) (.fn 93) [iJ s l (oY z l),cI k P false,.int .i64 f,.int .i64 p] H=some (.int .i64 (eM l z P f p),H):=by
 obtain ⟨hl,_⟩:=bM h
 have e0:∀ q,fH (fun x=>Int.ofNat 0) 0 (jA z q l) 14=jA z q l:=fun q=>Jq (fun _ _=>rfl) (Fh l z (by omega))
 have e1:fH (fun x=>Int.ofNat 0) 0 (fun x=>Int.ofNat 0) 14=fun _=>(0:Int):=Jq (fun _ _=>rfl) (fun _ _=>rfl)
 have e2:∀ q,fH (fun _=>(0:Int)) 0 (jA z q l) 14=jA z q l:=fun q=>Jq (fun _ _=>rfl) (Fh l z (by omega))
 have ep:ar 0 p 1=p.toNat:=by rw[bC];omega
 by_cases hf0:0≤f
 · have ef:ar 0 f 1=f.toNat:=by rw[bC];omega
   refine ba (n:=n+2) Tryz.func93 rfl rfl rfl (Nc (n+2) s l k (oY z l) P (jA z (P p.toNat) l) (jA z (P f.toNat) l) (fun q=>jA z q l) H f p (eM l z P f p)) (cS _ (n+2) 0 (fun q=>by rw[show n+2+q=n+q+2 by omega];exact Iz (s+1) l z h (aT _))) (bL (ag _ _) QR (fun x hx=>by rw[← Tr.ab hx];simp only[gY.st,aY];rw[← It l z P hf0];exact Q4 (n+2) l z H _ _ h)) (ah _ _) ?_
   simp only[e0,e1,e2,ep,ef]
   have hsame:kV (jA z (P p.toNat) l) (jA z (P f.toNat) l) 14=true→eM l z P f p=0:=fun hc=>by
    rw[← It l z P hf0]
    exact xQ (fun i hi=>Br _ _ _ hc i (by omega))
   generalize eM l z P f p=V at *
   repeat' first | (refine Tr.al (fun hc=>?_) (fun hc=>?_)<;>(try simp (disch:=omega) only[nV,nW] at hc)<;>(try (exfalso;omega))) | (refine Tr.bf ?_ ?_;· ((try simp (disch:=omega) only[nV,nW]);try omega)) | (refine Tr.ay ?_ ?_;· first | exact trivial | rfl | exact ⟨rfl,rfl⟩ | exact ⟨trivial,rfl⟩ | exact ⟨rfl,by assumption⟩ | exact ⟨trivial,by assumption⟩ | exact ⟨rfl,rfl,rfl⟩ | (simp (disch:=omega) only[nV,nW];done) | ((try simp (disch:=omega) only[nV,nW]);omega)) | fail
   all_goals first
    | exact Tr.aw ⟨rfl,rfl⟩
    | (have:=hsame (by assumption);subst this;exact Tr.aw ⟨rfl,rfl⟩)
    | fail
 · obtain rfl:f=-1:=by omega
   refine ba (n:=n+2) Tryz.func93 rfl rfl rfl (Nc (n+2) s l k (oY z l) P (jA z (P p.toNat) l) (fun _=>0) (fun q=>jA z q l) H (-1) p (eM l z P (-1) p)) (cS _ (n+2) 0 (fun q=>by rw[show n+2+q=n+q+2 by omega];exact Iz (s+1) l z h (aT _))) (bL (ag _ _) QR (fun x hx=>by rw[← Tr.ab hx];simp only[gY.st,aY];rw[← Is l z P];exact Q4 (n+2) l z H _ _ h)) (ah _ _) ?_
   simp only[e0,e1,e2,ep]
   have hsame:kV (jA z (P p.toNat) l) (fun _=>0) 14=true→eM l z P (-1) p=0:=fun hc=>by
    rw[← Is l z P]
    exact xQ (fun i hi=>Br _ _ _ hc i (by omega))
   generalize eM l z P (-1) p=V at *
   repeat' first | (refine Tr.al (fun hc=>?_) (fun hc=>?_)<;>(try simp (disch:=omega) only[nV,nW] at hc)<;>(try (exfalso;omega))) | (refine Tr.bf ?_ ?_;· ((try simp (disch:=omega) only[nV,nW]);try omega)) | (refine Tr.ay ?_ ?_;· first | exact trivial | rfl | exact ⟨rfl,rfl⟩ | exact ⟨trivial,rfl⟩ | exact ⟨rfl,by assumption⟩ | exact ⟨trivial,by assumption⟩ | exact ⟨rfl,rfl,rfl⟩ | (simp (disch:=omega) only[nV,nW];done) | ((try simp (disch:=omega) only[nV,nW]);omega)) | fail
   all_goals first
    | exact Tr.aw ⟨rfl,rfl⟩
    | (have:=hsame (by assumption);subst this;exact Tr.aw ⟨rfl,rfl⟩)
    | fail
end
end Go.Eng
end
section
namespace Go.Eng
open Go.Proofs
noncomputable def ob (v m:Nat) (k:Int):av:=[(0,.slc 1 0 v 0 1 m none),(3,.int .i64 k)]
noncomputable def q9 (v m o len:Nat) (k j:Int):av:=[(0,.slc 1 0 v 0 1 m none),(3,.int .i64 k),(4,.slc 1 0 v o 1 len none),(5,.int .i64 j)]
theorem MG (n v m o len:Nat) (a:Nat→Int) (H:aa) (k j:Int):aX (bz n 97 61) (il aU n 0) aZ a6 (part Tryz.f97 [1,1,0,1,0,0,1,0,0,1,0,1,0,1,0,0]) (hints (q9 v m o len k j)) (aB::⟨false,[(v,.row (.M [.arr .i64 a m]))]⟩::H) =
 Tr.ite (dq j (Int.ofNat len)) (Tr.req (dF j len) (Tr.req (bX v v) (Tr.req (bA (ar o j 1) m) (Tr.req (dF (cu .i64 j (Int.ofNat 1)) len) (Tr.req (bX v v) (Tr.req (bA (ar o (cu .i64 j (Int.ofNat 1)) 1) m) (Tr.ite (b8 (dm (a (ar o j 1)) (a (ar o (cu .i64 j (Int.ofNat 1)) 1)))) (Tr.req (dF j len) (Tr.req (bX v v) (Tr.req (bA (ar o j 1) m) (Tr.req (dF k m) (Tr.req (bX v v) (Tr.req (bA (ar 0 k 1) m) (Tr.ok (Ex.normal,[(0,AV.slc 1 0 v 0 1 m none,none),(3,AV.int .i64 (a8 .i64 k (Int.ofNat 1)),none),(4,AV.slc 1 0 v o 1 len none,none),(5,AV.int .i64 (a8 .i64 j (Int.ofNat 1)),none)],aB::{ lock:=false,bs:=[(v,ak.row (Row.M [aW.arr .i64 (bG a (ar 0 k 1) (a (ar o j 1))) m]))] } :: H)))))))) (Tr.ok (Ex.normal,[(0,AV.slc 1 0 v 0 1 m none,none),(3,AV.int .i64 k,none),(4,AV.slc 1 0 v o 1 len none,none),(5,AV.int .i64 (a8 .i64 j (Int.ofNat 1)),none)],aB::{ lock:=false,bs:=[(v,ak.row (Row.M [aW.arr .i64 a m]))] } :: H))))))))) (Tr.ok (Ex.exit 2,[(0,AV.slc 1 0 v 0 1 m none,none),(3,AV.int .i64 k,none),(4,AV.slc 1 0 v o 1 len none,none),(5,AV.int .i64 j,none),(32,AV.bool false,some 1)],aB::{ lock:=false,bs:=[(v,ak.row (Row.M [aW.arr .i64 a m]))] } :: H)):=by kernel_rfl
theorem IW (n v m:Nat) (a:Nat→Int) (H:aa) (k:Int):aX (bz n 97 61) (il aU n 0) (pN aZ 2) a6 (part Tryz.f97 [1,1,0,1,0,0]) (hints (ob v m k)) (aB::⟨false,[(v,.row (.M [.arr .i64 a m]))]⟩::H) =
 Tr.ite (dq k (Int.ofNat m)) (Tr.req (dF k m) (Tr.req (bX v v) (Tr.req (bA (ar 0 k 1) m) (Tr.req (dF (cu .i64 k (Int.ofNat 1)) m) (Tr.req (bX v v) (Tr.req (bA (ar 0 (cu .i64 k (Int.ofNat 1)) 1) m) (Tr.ite (dm (a (ar 0 k 1)) (a (ar 0 (cu .i64 k (Int.ofNat 1)) 1))) (Tr.req (je k m) Tr.bad) (Tr.ok (Ex.normal,[(0,AV.slc 1 0 v 0 1 m none,none),(3,AV.int .i64 (a8 .i64 k (Int.ofNat 1)),none)],aB::{ lock:=false,bs:=[(v,ak.row (Row.M [aW.arr .i64 a m]))] } :: H))))))))) (Tr.ok (Ex.exit 0,[(0,AV.slc 1 0 v 0 1 m none,none),(3,AV.int .i64 k,none),(13,AV.bool false,some 1)],aB::{ lock:=false,bs:=[(v,ak.row (Row.M [aW.arr .i64 a m]))] } :: H)):=by kernel_rfl
theorem P8 (n v m o len:Nat) (a b:Nat→Int) (H:aa) (k x:Int):aX (bz n 97 61) (il aU n 0) (gf aZ 2 (q9 v m o len k (Int.ofNat 1)) (aB::⟨false,[(v,.row (.M [.arr .i64 a m]))]⟩::H) (.ok (.normal,hints (q9 v m o len x (Int.ofNat len)++[(32,.bool false)]),aB::⟨false,[(v,.row (.M [.arr .i64 b m]))]⟩::H))) a6 (part Tryz.f97 [1,1,0,1,0,0]) (hints (ob v m k)) (aB::⟨false,[(v,.row (.M [.arr .i64 a m]))]⟩::H) =
 (fun (Z0:bn)=>Tr.ite (dq k (Int.ofNat m)) (Tr.req (dF k m) (Tr.req (bX v v) (Tr.req (bA (ar 0 k 1) m) (Tr.req (dF (cu .i64 k (Int.ofNat 1)) m) (Tr.req (bX v v) (Tr.req (bA (ar 0 (cu .i64 k (Int.ofNat 1)) 1) m) (Tr.ite (dm (a (ar 0 k 1)) (a (ar 0 (cu .i64 k (Int.ofNat 1)) 1))) (Tr.req (je k m) (Tr.reqP ([(0,AV.slc 1 0 v 0 1 m none),(3,AV.int .i64 k),(4,AV.slc 1 0 v (af 0 (dH k)) 1 (dk m (dH k)) none),(5,AV.int .i64 (Int.ofNat 1))]=[(0,AV.slc 1 0 v 0 1 m none),(3,AV.int .i64 k),(4,AV.slc 1 0 v o 1 len none),(5,AV.int .i64 (Int.ofNat 1))]∧aB::Z0::H=aB::Z0::H) (Tr.req (je x m) (Tr.req (bA 0 (dk m (dH x))) (Tr.req (bX v v) (Tr.req (lX (af 0 (dH x)) (dk m (dH x)) 0 m) (Tr.req (je x m) (Tr.ok (Ex.ret,[(2,AV.slc 1 0 v 0 1 (dH x) none,none)],aB::{ lock:=false,bs:=[(v,ak.row (Row.M [aW.arr .i64 (fH b (af 0 (dH x)) (fun x=>Int.ofNat 0) (dk m (dH x))) m]))] } :: H))))))))) (Tr.ok (Ex.normal,[(0,AV.slc 1 0 v 0 1 m none,none),(3,AV.int .i64 (a8 .i64 k (Int.ofNat 1)),none)],aB::Z0::H))))))))) (Tr.ok (Ex.exit 0,[(0,AV.slc 1 0 v 0 1 m none,none),(3,AV.int .i64 k,none),(13,AV.bool false,some 1)],aB::Z0::H))) { lock:=false,bs:=[(v,ak.row (Row.M [aW.arr .i64 a m]))] }:=by kernel_rfl
theorem QA (n v m:Nat) (a b:Nat→Int) (H:aa) (x:Nat):bw Tryz.prog (cd n) 100000 97 Tryz.f97 (KtB.kt 97) (il aU n 0) (gf aZ 0 (ob v m (Int.ofNat 1)) (aB::⟨false,[(v,.row (.M [.arr .i64 a m]))]⟩::H) (.ok (.ret,hints [(2,.slc 1 0 v 0 1 x none)],aB::⟨false,[(v,.row (.M [.arr .i64 b m]))]⟩::H))) a6 [(.slc 0 0 v 0 1 m none,none)] (⟨false,[(v,.row (.M [.arr .i64 a m]))]⟩::H) =
 (fun (Z0:bn)=>Tr.ite (dq (Int.ofNat m) (Int.ofNat 2)) (Tr.ok ((AV.slc 0 0 v 0 1 m none,none),Z0::H)) (Tr.reqP ([(0,AV.slc 1 0 v 0 1 m none),(3,AV.int .i64 (Int.ofNat 1))]=[(0,AV.slc 1 0 v 0 1 m none),(3,AV.int .i64 (Int.ofNat 1))]∧aB::Z0::H=aB::Z0::H) (Tr.ok ((AV.slc 0 0 v 0 1 x none,none),{ lock:=false,bs:=[(v,ak.row (Row.M [aW.arr .i64 b m]))] } :: H)))) { lock:=false,bs:=[(v,ak.row (Row.M [aW.arr .i64 a m]))] }:=by kernel_rfl
theorem QC (n v m:Nat) (a:Nat→Int) (H:aa):bw Tryz.prog (cd n) 100000 97 Tryz.f97 (KtB.kt 97) (il aU n 0) (pN aZ 0) a6 [(.slc 0 0 v 0 1 m none,none)] (⟨false,[(v,.row (.M [.arr .i64 a m]))]⟩::H) =
 Tr.ite (dq (Int.ofNat m) (Int.ofNat 2)) (Tr.ok ((AV.slc 0 0 v 0 1 m none,none),{ lock:=false,bs:=[(v,ak.row (Row.M [aW.arr .i64 a m]))] } :: H)) Tr.bad:=by kernel_rfl
theorem QB (n v m:Nat) (a:Nat→Int) (H:aa):bw Tryz.prog (cd n) 100000 97 Tryz.f97 (KtB.kt 97) (il aU n 0) (gf aZ 0 (ob v m (Int.ofNat 1)) (aB::⟨false,[(v,.row (.M [.arr .i64 a m]))]⟩::H) (.ok (.normal,hints (ob v m (Int.ofNat m)++[(13,.bool false)]),aB::⟨false,[(v,.row (.M [.arr .i64 a m]))]⟩::H))) a6 [(.slc 0 0 v 0 1 m none,none)] (⟨false,[(v,.row (.M [.arr .i64 a m]))]⟩::H) =
 (fun (Z0:bn)=>Tr.ite (dq (Int.ofNat m) (Int.ofNat 2)) (Tr.ok ((AV.slc 0 0 v 0 1 m none,none),Z0::H)) (Tr.reqP ([(0,AV.slc 1 0 v 0 1 m none),(3,AV.int .i64 (Int.ofNat 1))]=[(0,AV.slc 1 0 v 0 1 m none),(3,AV.int .i64 (Int.ofNat 1))]∧aB::Z0::H=aB::Z0::H) (Tr.ok ((AV.slc 0 0 v 0 1 m none,none),Z0::H)))) { lock:=false,bs:=[(v,ak.row (Row.M [aW.arr .i64 a m]))] }:=by kernel_rfl
theorem QS:∀ b,(0,b) ∈ bo (ct Tryz.f97)→b=.loop (part Tryz.f97 [1,1,0,1,0,0]):=kX (by kernel_rfl)
theorem NI:∀ b,(2,b) ∈ bo (part Tryz.f97 [1,1,0,1,0,0])→b=.loop (part Tryz.f97 [1,1,0,1,0,0,1,0,0,1,0,1,0,1,0,0]):=kX (by kernel_rfl)
def oK (a:Nat→Int):Nat→List Int
 | 0=>[]
 | j+1=>if j=0∨a j≠a (j-1) then oK a j++[a j] else oK a j
noncomputable def iv (a:Nat→Int) (k0:Nat):Nat→(Nat→Int)×Nat
 | 0=>(a,k0)
 | i+1=>if (iv a k0 i).1 (k0+(i+1))≠(iv a k0 i).1 (k0+i) then (bG (iv a k0 i).1 (iv a k0 i).2 ((iv a k0 i).1 (k0+(i+1))),(iv a k0 i).2+1) else iv a k0 i
theorem wu (a:Nat→Int):∀ j,(oK a j).length≤j
 | 0=>Nat.le_refl _
 | j+1=>by
   have:=wu a j
   unfold oK
   split
   · rw[List.length_append,List.length_singleton];omega
   · omega
theorem wv (a:Nat→Int):∀ k,(∀ j,j+1<k→a (j+1)≠a j)→oK a k=(List.range k).map a
 | 0,_=>rfl
 | k + 1,h=>by
   unfold oK
   rw[if_pos,wv a k (fun j hj=>h j (by omega)),List.range_succ,List.map_append]
   · rfl
   · by_cases e:k=0
     · exact .inl e
     · have:=h (k-1) (by omega)
       rw[show k-1+1=k by omega] at this
       exact .inr this
theorem m8 {a:Nat→Int} {k0:Nat} (hk:1≤k0) (hd:a k0=a (k0-1)) (hn:∀ j,j+1<k0→a (j+1)≠a j):∀ i,(iv a k0 i).2=(oK a (k0+i+1)).length∧(∀ x,x<(iv a k0 i).2→(iv a k0 i).1 x=(oK a (k0+i+1)).getD x 0)∧(∀ x,k0+i≤x→(iv a k0 i).1 x=a x)∧(iv a k0 i).2≤k0+i
 | 0 => by
   have e:oK a (k0+0+1)=oK a k0:=by
    have hnc:¬(k0=0∨a k0≠a (k0-1)):=by
     rintro (c | c)
     · omega
     · exact c hd
    exact if_neg hnc
   rw[e,wv a k0 hn]
   refine ⟨by simp[iv],fun x hx=>?_,fun x _=>rfl,Nat.le_refl _⟩
   have hx:x<k0:=hx
   rw[List.getD_eq_getElem?_getD,List.getElem?_map,List.getElem?_range hx]
   rfl
 | i + 1=>by
   obtain ⟨i1,i2,i3,i4⟩:=m8 hk hd hn i
   have r1:=i3 (k0+(i+1)) (by omega)
   have r2:=i3 (k0+i) (Nat.le_refl _)
   have e:oK a (k0+(i+1)+1)=if a (k0+(i+1))≠a (k0+i) then oK a (k0+i+1)++[a (k0+(i+1))] else oK a (k0+i+1):=by
    show (if k0+(i+1)=0∨a (k0+(i+1))≠a (k0+(i+1)-1) then oK a (k0+(i+1))++_ else oK a (k0+(i+1)))=_
    rw[show k0+(i+1)-1=k0+i by omega,show k0+(i+1)=k0+i+1 by omega]
    by_cases c:a (k0+i+1)≠a (k0+i)
    · rw[if_pos (.inr c),if_pos c]
    · rw[if_neg (by rintro (d | d);omega;exact c d),if_neg c]
   have es:iv a k0 (i+1)=if a (k0+(i+1))≠a (k0+i) then (bG (iv a k0 i).1 (iv a k0 i).2 (a (k0+(i+1))),(iv a k0 i).2+1) else iv a k0 i:=by
    show (if (iv a k0 i).1 (k0+(i+1))≠(iv a k0 i).1 (k0+i) then (bG (iv a k0 i).1 (iv a k0 i).2 ((iv a k0 i).1 (k0+(i+1))),_) else _)=_
    rw[r1,r2]
   rw[e,es]
   by_cases c:a (k0+(i+1))≠a (k0+i)
   · rw[if_pos c,if_pos c]
     refine ⟨by rw[List.length_append,List.length_singleton,i1],fun x hx=>?_,fun x hx=>?_,by show (iv a k0 i).2+1≤_;omega⟩
     · have hx:x<(iv a k0 i).2+1:=hx
       show bG _ _ _ x=_
       rw[jS]
       dsimp only
       rw[List.getD_eq_getElem?_getD]
       by_cases ex:x=(iv a k0 i).2
       · rw[if_pos ex,List.getElem?_append_right (by omega),← i1,ex,Nat.sub_self];rfl
       · rw[if_neg ex,i2 x (by omega),List.getElem?_append_left (by omega),List.getD_eq_getElem?_getD]
     · show bG _ _ _ x=_
       rw[jS]
       dsimp only
       rw[if_neg (by omega)]
       exact i3 x (by omega)
   · rw[if_neg c,if_neg c]
     exact ⟨i1,i2,fun x hx=>i3 x (by omega),by omega⟩
section
variable (n v m:Nat) (a:Nat→Int) (H:aa)
theorem Pd (k0:Nat) (hk:1≤k0) (hm:k0<m) (h2:m≤1000) (hd:a k0=a (k0-1)) (hn:∀ j,j+1<k0→a (j+1)≠a j):exec (bz n 97 61) (.block 2 (.loop (part Tryz.f97 [1,1,0,1,0,0,1,0,0,1,0,1,0,1,0,0]))) (q9 v m k0 (m-k0) (k0:Nat) (Int.ofNat 1)) (aB::⟨false,[(v,.row (.M [.arr .i64 a m]))]⟩::H) =
 some (.normal,q9 v m k0 (m-k0) ((iv a k0 (m-k0-1)).2:Nat) (Int.ofNat (m-k0))++[(32,.bool false)],aB::⟨false,[(v,.row (.M [.arr .i64 (iv a k0 (m-k0-1)).1 m]))]⟩::H):=by
 refine nD 2 (fun j=>q9 v m k0 (m-k0) ((iv a k0 j).2:Nat) ((j+1:Nat):Int)) (fun j=>aB::⟨false,[(v,.row (.M [.arr .i64 (iv a k0 j).1 m]))]⟩::H) (m-k0-1) (q9 v m k0 (m-k0) ((iv a k0 (m-k0-1)).2:Nat) (Int.ofNat (m-k0))++[(32,.bool false)],aB::⟨false,[(v,.row (.M [.arr .i64 (iv a k0 (m-k0-1)).1 m]))]⟩::H) (by omega) (fun j hj=>?_) ?_
 · obtain ⟨_,_,_,i4⟩:=m8 hk hd hn j
   have es:iv a k0 (j+1)=if (iv a k0 j).1 (k0+(j+1))≠(iv a k0 j).1 (k0+j) then (bG (iv a k0 j).1 (iv a k0 j).2 ((iv a k0 j).1 (k0+(j+1))),(iv a k0 j).2+1) else iv a k0 j:=rfl
   generalize iv a k0 (j+1)=T at *
   generalize iv a k0 j=S0 at *
   obtain ⟨r,k⟩:=S0
   dsimp only at es i4 ⊢
   refine aG (MG n v m k0 (m-k0) r H (k:Nat) ((j+1:Nat):Int)) (aO n) (ag _ _) (ah _ _) ?_
   have e1:ar k0 ((j+1:Nat):Int) 1=k0+(j+1):=by rw[bC];omega
   have e2:cu .i64 ((j+1:Nat):Int) (Int.ofNat 1)=(j:Int):=by rw[eh,show Int.ofNat 1=1 from rfl,cK (by omega) (by omega)];omega
   have e3:ar k0 (j:Int) 1=k0+j:=by rw[bC];omega
   have e4:ar 0 (k:Int) 1=k:=GV k
   have e5:a8 .i64 ((j+1:Nat):Int) (Int.ofNat 1)=((j+1+1:Nat):Int):=wx (by omega)
   have e6:a8 .i64 (k:Int) (Int.ofNat 1)=((k+1:Nat):Int):=wx (by omega)
   rw[e1,e2,e3,e4,e5,e6,cg]
   by_cases c:r (k0+(j+1))=r (k0+j)
   · rw[if_neg (by simpa using c)] at es
     subst es
     rw[show (r (k0+(j+1)) == r (k0+j))=true from beq_iff_eq.2 c]
     exact wF
   · rw[if_pos c] at es
     subst es
     rw[show (r (k0+(j+1)) == r (k0+j))=false from beq_eq_false_iff_ne.2 c]
     exact wF
 · obtain ⟨_,_,_,i4⟩:=m8 hk hd hn (m-k0-1)
   rw[show m-k0-1+1=m-k0 by omega]
   obtain ⟨x,h1,rfl⟩:=aG (Q:=fun x=>x=(.exit 2,q9 v m k0 (m-k0) ((iv a k0 (m-k0-1)).2:Nat) (Int.ofNat (m-k0))++[(32,.bool false)],aB::⟨false,[(v,.row (.M [.arr .i64 (iv a k0 (m-k0-1)).1 m]))]⟩::H)) (MG n v m k0 (m-k0) (iv a k0 (m-k0-1)).1 H ((iv a k0 (m-k0-1)).2:Nat) (Int.ofNat (m-k0))) (aO n) (ag _ _) (ah _ _) (by
    exact wF)
   exact h1
theorem JD {n f nt:Nat} {c:Code} (id:Nat) (F:Nat→av) (G:Nat→aa) (N:Nat) (p:Nat→Bool) (X:Nat→av×aa) (Y:av×aa) (hN:N<99999)
 (hs:∀ j,j<N→(∀ i,i<j→p i=false)→∃ x,exec (bz n f nt) c (F j) (G j)=some x∧if p j=true then x=(.ret,X j) else x.1=.normal∧tidy (aq (G 0)) x.2.1 x.2.2=(F (j+1),G (j+1)))
 (he:exec (bz n f nt) c (F N) (G N)=some (.exit id,Y)):exec (bz n f nt) (.block id (.loop c)) (F 0) (G 0)=some (cond (iu p N) (.ret,X (fN p N 0)) (.normal,Y)):=by
 cases hc:iu p N with
 | false =>
   have hno:∀ j,j<N→p j=false:=fun j hj=>by
    cases h:p j with
    | false=>rfl
    | true=>rw[(eI p N).2 ⟨j,hj,h⟩] at hc;cases hc
   refine nD id F G N Y hN (fun j hj=>?_) he
   obtain ⟨x,h1,h2⟩:=hs j hj (fun i hi=>hno i (by omega))
   rw[if_neg (by rw[hno j hj];decide)] at h2
   exact ⟨x,h1,h2⟩
 | true =>
   have hJ:=ky hc
   obtain ⟨_,_,k3,k4⟩:=iK p N 0
   have k4:=k4 (by omega)
   have k3:∀ i,i<fN p N 0→p i=false:=fun i hi=>k3 i (Nat.zero_le _) hi
   obtain ⟨x,h1,h2⟩:=hs _ hJ k3
   rw[if_pos k4] at h2
   subst h2
   have e0:iu (fun _=>false) (fN p N 0)=false:=by
    cases h:iu (fun _=>false) (fN p N 0) with
    | false=>rfl
    | true=>obtain ⟨_,_,h⟩:=(eI _ _).1 h;cases h
   have key:=qn (body:=exec (bz n f nt) c) (n:=aq (G 0)) F G (fN p N 0) (fun _=>false) (fun _=>(.ret,X (fN p N 0)))
    (fun j hj _=>by
      obtain ⟨x,h1,h2⟩:=hs j (by omega) (fun i hi=>k3 i (by omega))
      rw[if_neg (by rw[k3 j hj];decide)] at h2
      obtain ⟨e,f1,g1⟩:=x
      obtain ⟨rfl,h3⟩:=h2
      exact ⟨_,_,h1,h3⟩)
    (fun j hj hp=>by cases hp) ⟨h1,by simp⟩ (fN p N 0) 0 100000 (by omega) (by omega)
   exact gG (fun id' h=>by cases h) key
noncomputable def uj (a:Nat→Int) (m j:Nat):Nat:=(iv a (j+1) (m-(j+1)-1)).2
noncomputable def Gf (a:Nat→Int) (m j:Nat):Nat→Int:=fH (iv a (j+1) (m-(j+1)-1)).1 (uj a m j) (fun x=>Int.ofNat 0) (m-uj a m j)
def C4 (a:Nat→Int) (j:Nat):Bool:=decide (a (j+1)=a j)
theorem Tg (hm:2≤m) (h2:m≤1000):exec (bz n 97 61) (.block 0 (.loop (part Tryz.f97 [1,1,0,1,0,0]))) (ob v m (Int.ofNat 1)) (aB::⟨false,[(v,.row (.M [.arr .i64 a m]))]⟩::H) =
 some (cond (iu (C4 a) (m-1)) (.ret,[(2,.slc 1 0 v 0 1 (uj a m (fN (C4 a) (m-1) 0)) none)],aB::⟨false,[(v,.row (.M [.arr .i64 (Gf a m (fN (C4 a) (m-1) 0)) m]))]⟩::H) (.normal,ob v m (Int.ofNat m)++[(13,.bool false)],aB::⟨false,[(v,.row (.M [.arr .i64 a m]))]⟩::H)):=by
 have key:∀ j,j<m-1→(∀ i,i<j→C4 a i=false)→∃ x,exec (bz n 97 61) (part Tryz.f97 [1,1,0,1,0,0]) (ob v m ((j+1:Nat):Int)) (aB::⟨false,[(v,.row (.M [.arr .i64 a m]))]⟩::H)=some x∧if C4 a j=true then x=(.ret,[(2,.slc 1 0 v 0 1 (uj a m j) none)],aB::⟨false,[(v,.row (.M [.arr .i64 (Gf a m j) m]))]⟩::H) else x.1=.normal∧tidy (aq (aB::⟨false,[(v,.row (.M [.arr .i64 a m]))]⟩::H)) x.2.1 x.2.2=(ob v m ((j+1+1:Nat):Int),aB::⟨false,[(v,.row (.M [.arr .i64 a m]))]⟩::H):=by
  intro j hj hno
  have e2:cu .i64 ((j+1:Nat):Int) (Int.ofNat 1)=(j:Int):=by rw[eh,show Int.ofNat 1=1 from rfl,cK (by omega) (by omega)];omega
  have e3:ar 0 ((j+1:Nat):Int) 1=j+1:=GV (j+1)
  have e4:ar 0 (j:Int) 1=j:=GV j
  have e5:a8 .i64 ((j+1:Nat):Int) (Int.ofNat 1)=((j+1+1:Nat):Int):=wx (by omega)
  have e7:af 0 (dH ((j+1:Nat):Int))=j+1:=by rw[aQ,fP];omega
  have e8:dk m (dH ((j+1:Nat):Int))=m-(j+1):=by rw[gz,fP];omega
  cases hp:C4 a j with
  | true =>
    have hd:a (j+1)=a j:=of_decide_eq_true hp
    have hn:∀ i,i+1<j+1→a (i+1)≠a i:=fun i hi=>of_decide_eq_false (hno i (by omega))
    have hx:=Pd n v m a H (j+1) (by omega) (by omega) h2 hd hn
    obtain ⟨_,_,_,i4⟩:=m8 (a:=a) (k0:=j+1) (by omega) hd hn (m-(j+1)-1)
    have hK:uj a m j<m:=by unfold uj;omega
    have eK:(iv a (j+1) (m-(j+1)-1)).2=uj a m j:=rfl
    have e9:af 0 (dH ((uj a m j:Nat):Int))=uj a m j:=by rw[aQ,fP];omega
    have e10:dk m (dH ((uj a m j:Nat):Int))=m-uj a m j:=by rw[gz,fP];omega
    have e11:dH ((uj a m j:Nat):Int)=uj a m j:=by rw[fP];omega
    obtain ⟨y,y1,y2⟩:=aG (Q:=fun x=>x=(.ret,[(2,.slc 1 0 v 0 1 (uj a m j) none)],aB::⟨false,[(v,.row (.M [.arr .i64 (Gf a m j) m]))]⟩::H)) (P8 n v m (j+1) (m-(j+1)) a (iv a (j+1) (m-(j+1)-1)).1 H ((j+1:Nat):Int) ((uj a m j:Nat):Int)) (aO n) (bL (ag _ _) NI (fun x hx2=>by rw[← Tr.ab hx2];simp only[gY.st,aY];exact hx)) (ah _ _) (by
     rw[e2,e3,e4,e5,e7,e8,e9,e10,e11,cg,show (a (j+1) == a j)=true from beq_iff_eq.2 hd]
     have eG:fH (iv a (j+1) (m-(j+1)-1)).1 (uj a m j) (fun x=>Int.ofNat 0) (m-uj a m j)=Gf a m j:=rfl
     rw[eG]
     generalize Gf a m j=G at *
     generalize uj a m j=K at *
     exact wF)
    exact ⟨y,y1,by rw[if_pos rfl];exact y2⟩
  | false =>
    have hd:a (j+1)≠a j:=of_decide_eq_false hp
    obtain ⟨y,y1,y2⟩:=aG (Q:=fun x=>x.1=.normal∧tidy (aq (aB::⟨false,[(v,.row (.M [.arr .i64 a m]))]⟩::H)) x.2.1 x.2.2=(ob v m ((j+1+1:Nat):Int),aB::⟨false,[(v,.row (.M [.arr .i64 a m]))]⟩::H)) (IW n v m a H ((j+1:Nat):Int)) (aO n) (iq (ag _ _) 2) (ah _ _) (by
     rw[e2,e3,e4,e5,cg,show (a (j+1) == a j)=false from beq_eq_false_iff_ne.2 hd]
     exact wF)
    exact ⟨y,y1,by rw[if_neg (by decide)];exact y2⟩
 have he:exec (bz n 97 61) (part Tryz.f97 [1,1,0,1,0,0]) (ob v m ((m-1+1:Nat):Int)) (aB::⟨false,[(v,.row (.M [.arr .i64 a m]))]⟩::H)=some (.exit 0,ob v m (Int.ofNat m)++[(13,.bool false)],aB::⟨false,[(v,.row (.M [.arr .i64 a m]))]⟩::H):=by
  rw[show m-1+1=m by omega]
  obtain ⟨x,h1,rfl⟩:=aG (Q:=fun x=>x=(.exit 0,ob v m (Int.ofNat m)++[(13,.bool false)],aB::⟨false,[(v,.row (.M [.arr .i64 a m]))]⟩::H)) (IW n v m a H (Int.ofNat m)) (aO n) (iq (ag _ _) 2) (ah _ _) (by
   exact wF)
  exact h1
 exact JD 0 (fun j=>ob v m ((j+1:Nat):Int)) (fun _=>aB::⟨false,[(v,.row (.M [.arr .i64 a m]))]⟩::H) (m-1) (C4 a) (fun j=>([(2,.slc 1 0 v 0 1 (uj a m j) none)],aB::⟨false,[(v,.row (.M [.arr .i64 (Gf a m j) m]))]⟩::H)) (ob v m (Int.ofNat m)++[(13,.bool false)],aB::⟨false,[(v,.row (.M [.arr .i64 a m]))]⟩::H) (by omega) key he
end
theorem NV (m:Nat) (a:Nat→Int) (hm:1≤m) (h2:m≤1000):∃ g,(∀ i,i<(oK a m).length→g i=(oK a m).getD i 0)∧∀ n v H,cd (n+1) (.fn 97) [.slc 0 0 v 0 1 m none] (⟨false,[(v,.row (.M [.arr .i64 a m]))]⟩::H)=some (.slc 0 0 v 0 1 (oK a m).length none,⟨false,[(v,.row (.M [.arr .i64 g m]))]⟩::H):=by
 by_cases h1:m<2
 · obtain rfl:m=1:=by omega
   have e:oK a 1=[a 0]:=rfl
   refine ⟨a,fun i hi=>?_,fun n v H=>?_⟩
   · rw[e] at hi ⊢
     simp at hi
     subst hi;rfl
   · rw[e]
     refine ba (n:=n) Tryz.func97 rfl rfl rfl (QC n v 1 a H) (aO n) (iq (ag _ _) 0) (ah _ _) ?_
     exact wF
 have hx:=fun n v H=>Tg n v m a H (by omega) h2
 cases hc:iu (C4 a) (m-1) with
 | false =>
   have hno:∀ j,j+1<m→a (j+1)≠a j:=fun j hj=>by
    have:=jJ (by rw[hc];decide) j (show j<m-1 by omega)
    exact of_decide_eq_false this
   have e:=wv a m hno
   have el:(oK a m).length=m:=by rw[e];simp
   rw[hc] at hx
   simp only[cond_false] at hx
   refine ⟨a,fun i hi=>?_,fun n v H=>?_⟩
   · rw[el] at hi
     rw[e,List.getD_eq_getElem?_getD,List.getElem?_map,List.getElem?_range hi];rfl
   · rw[el]
     refine ba (n:=n) Tryz.func97 rfl rfl rfl (QB n v m a H) (aO n) (bL (ag _ _) QS (fun x h=>by rw[← Tr.ab h];simp only[gY.st,aY];exact hx n v H)) (ah _ _) ?_
     exact wF
 | true =>
   have hJ:=ky hc
   obtain ⟨_,_,k3,k4⟩:=iK (C4 a) (m-1) 0
   have k4:=k4 (by omega)
   have hd:a (fN (C4 a) (m-1) 0+1)=a (fN (C4 a) (m-1) 0):=of_decide_eq_true k4
   have hn:∀ i,i+1<fN (C4 a) (m-1) 0+1→a (i+1)≠a i:=fun i hi=>of_decide_eq_false (k3 i (Nat.zero_le _) (by omega))
   rw[hc] at hx
   simp only[cond_true] at hx
   generalize fN (C4 a) (m-1) 0=J at *
   obtain ⟨i1,i2,_,i4⟩:=m8 (a:=a) (k0:=J+1) (by omega) hd hn (m-(J+1)-1)
   have eK:(iv a (J+1) (m-(J+1)-1)).2=uj a m J:=rfl
   rw[show J+1+(m-(J+1)-1)+1=m by omega] at i1 i2
   rw[eK] at i1 i2
   refine ⟨Gf a m J,fun i hi=>?_,fun n v H=>?_⟩
   · rw[← i1] at hi
     unfold Gf
     rw[lf]
     unfold rJ
     rw[if_neg (by omega)]
     exact i2 i hi
   · rw[← i1]
     refine ba (n:=n) Tryz.func97 rfl rfl rfl (QA n v m a (Gf a m J) H (uj a m J)) (aO n) (bL (ag _ _) QS (fun x h=>by rw[← Tr.ab h];simp only[gY.st,aY];exact hx n v H)) (ah _ _) ?_
     generalize Gf a m J=G at *
     generalize uj a m J=K at *
     exact wF
end Go.Eng
end
