/- Bath: Best of the program; lists of births that are equal. -/
import Derived.Test.YtigmfpmabgekoaaGreatV12Bb4x7
import Derived.Test.YtigmfpmabgekoaaGreatV12Ba3x9
import Derived.Test.YtigmfpmabgekoaaGreatV12Bp7x3
set_option linter.unusedVariables false
set_option linter.unusedSimpArgs false
set_option maxRecDepth 100000
section
namespace Go.Eng
open Go.Proofs
theorem He {l m k':Nat} {k:Nat} {t:me} {y g b a:Nat→Int} (ht:t.Ok (cd k)) (h:∀ H,cd k (.fn 63) [.ptrT (some 0) (.G [aG 7 l y]) 0,bD m g false] H=some (.tup [bD k' b false,bD k' a false],H)):(iz t 63 (OR l m k' y g b a)).Ok (cd k):=by
 refine dQ ht (fun args p v hg hp H=>?_)
 unfold OR at hg
 simp only[nP] at hg
 obtain ⟨rfl,rfl⟩:=hg
 rw[hp];exact h H
noncomputable def lr (B:List Int):Nat→Int:=fK (fun x=>Int.ofNat 0) 0 (aB B) B.length
theorem EP (B:List Int) (j:Nat) (h:j<B.length):lr B j=aB B j:=by
 unfold lr;rw[jR];unfold qk;rw[if_pos (by omega)];simp
noncomputable def Dm (l:Nat) (z:Nat→Int):AV:=if cg l z=0 then .tup [bD (dM l z).length (lr (dM l z)) true,.int .i64 0] else .tup [.nils,.int .i64 (cg l z)]
section
variable (n l:Nat) (z:Nat→Int) (H:aa)
theorem IU (h:cg l z=0):Aw l z=.tup [.ptrT (some 0) (.G [aG 7 l (oY z l)]) 0,.int .i64 0]:=by unfold Aw;rw[if_pos h];rfl
theorem OB (h:cg l z=0):cd (n+5) (.fn 63) [vu l z,dA (dl (gK z) l)] H=some (.tup [dA (dM l z),dA (Ca l z)],H):=by
 obtain ⟨h1,h2⟩:=jG l z h
 obtain ⟨hl,_⟩:=bM h1
 have e:=Jq l z h
 have hN:(dl (vf z []) l).length=l:=wW (fun i _=>by unfold vf;rw[tR];rfl)
 have hm:∀ x ∈ dl (vf z []) l,xG l z x:=fun x hx=>by
  obtain ⟨i,rfl,h5,_⟩:=(qm _ _ _).1 hx
  exact ⟨by omega,by omega,by rw[Int.toNat_natCast];exact h2 i h5⟩
 have:=Se n l z H (by omega) (dl (vf z []) l) (aB (dl (vf z []) l)) (by omega) (fun _ _=>rfl) hm
 rw[e]
 cases hL:dl (vf z []) l with
 | nil=>rw[hL] at hN;simp at hN;omega
 | cons a r=>rw[hL] at this;unfold dM Ca tu;rw[hL];exact this
theorem Hn (h:cg l z=0):∃ a r,tu z (dl (vf z []) l)=a::r:=by
 obtain ⟨h1,h2⟩:=jG l z h
 obtain ⟨hl,_⟩:=bM h1
 have hN:(dl (vf z []) l).length=l:=wW (fun i _=>by unfold vf;rw[tR];rfl)
 unfold tu
 cases e:dl (vf z []) l with
 | nil=>rw[e] at hN;simp at hN;omega
 | cons a r=>exact ⟨_,_,rfl⟩
theorem EF (z:Nat→Int):∀ (k:Nat) (L:List Int),(pc z k L).length≤k
 | 0,_=>Nat.zero_le _
 | k+1,[]=>Nat.zero_le _
 | k+1,a::r=>by
   show (pc z k _).length+1≤_
   have:=EF z k (cu (pB z (bE z (dG z (aB (a::r)) r.length).toNat)) (aB (a::r)) (r.length+1))
   omega
theorem AS:(tu z (dl (vf z []) l)).length≤l:=by
 have h1:=EF z (dl (vf z []) l).length (dl (vf z []) l)
 have h2:=s7 (vf z []) l
 unfold tu;omega
theorem N9:cd (n+13) (.fn 23) [aG 5 l z] H=some (Dm l z,H):=by
 have hc:∀ k H,cd (n+12+k) (.fn 62) [aG 5 l z] H=some (Aw l z,H):=fun k H=>by rw[show n+12+k=n+k+12 by omega];exact Sd _ l z H
 unfold Dm
 by_cases h:cg l z=0
 · rw [if_pos h]
   rw[IU l z h] at hc
   obtain ⟨h1,h2⟩:=jG l z h
   obtain ⟨hl,_⟩:=bM h1
   have h63:=fun k H=>OB (n+7+k) l z H h
   have hd:∀ k H,cd (n+12+k) (.fn 64) [.ptrT (some 0) (.G [aG 7 l (oY z l)]) 0] H=some (dA (dl (gK z) l),H):=fun k H=>by rw[show n+12+k=n+8+k+4 by omega];exact RH _ l z H h1
   have hlen:=AS l z
   obtain ⟨p,q,e⟩:=Hn l z h
   have hN:(dl (gK z) l).length=l:=by rw[Jq l z h];exact wW (fun i _=>by unfold vf;rw[tR];rfl)
   have eB:dM l z=p.1::q.map (·.1):=by unfold dM;rw[e];rfl
   have eA:Ca l z=p.2::q.map (·.2):=by unfold Ca;rw[e];rfl
   have lA:(q.map (·.2)).length=q.length:=by simp
   have lB:(q.map (·.1)).length=q.length:=by simp
   rw[e] at hlen
   simp only[List.length_cons] at hlen
   cases e2:dl (gK z) l with
   | nil=>rw[e2] at hN;simp at hN;omega
   | cons a r =>
     rw[e2] at hd h63 hN
     simp only[List.length_cons] at hN
     rw[eB,eA] at h63
     rw[eB]
     generalize hC:p.1::q.map (·.1)=B at *
     have hk:B.length=q.length+1:=by rw[← hC];simp
     have hdB:dA B=bD (q.length+1) (aB B) false:=by rw[← hC];show AV.slcT none (.M [.arr .i64 _ ((q.map (·.1)).length+1)]) 1 ((q.map (·.1)).length+1) false=_;rw[lB]
     have hdA:dA (p.2::q.map (·.2))=bD (q.length+1) (aB (p.2::q.map (·.2))) false:=by show AV.slcT none (.M [.arr .i64 _ ((q.map (·.2)).length+1)]) 1 ((q.map (·.2)).length+1) false=_;rw[lA]
     rw[hdB,hdA] at h63
     refine ba (n:=n+12) Tryz.func23 rfl rfl rfl (Um (n+12) l (r.length+1) (q.length+1) z (oY z l) (aB (a::r)) (aB B) (aB (p.2::q.map (·.2))) H) (cP _ (n+12) 0 (fun k=>He (s6 (s6 (aO _) (hc k)) (hd k)) (fun H=>by rw[show n+12+k=n+7+k+5 by omega];exact h63 k H))) (af _ _) (ag _ _) ?_
     have t1:dB (Int.ofNat (q.length+1))=q.length+1:=fR _
     have t2:xB (q.length+1) (q.length+1)=q.length+1:=by rw[xC];omega
     rw[t1,t2,c9]
     repeat' first | (refine Tr.al (fun hc=>?_) (fun hc=>?_)<;>(try simp (disch:=omega) only[nV,nW] at hc)<;>try omega) | (refine Tr.a8 ?_ ?_;· (try simp (disch:=omega) only[nV,nW]);try omega) | (refine Tr.aw ?_ ?_;· first | exact trivial | rfl | exact ⟨rfl,rfl⟩ | exact ⟨rfl,rfl,rfl⟩ | (simp (disch:=omega) only[nV,nW];done) | ((try simp (disch:=omega) only[nV,nW]);omega)) | fail
     all_goals first
      | (refine Tr.av ⟨?_,rfl⟩
         show AV.tup [.slcT none (.M [.arr .i64 _ (q.length+1)]) 1 (q.length+1) (cM (q.length+1) (q.length+1)),_]=_
         unfold lr
         rw[hk,Dj];rfl)
      | fail
 · rw[if_neg h]
   have hv:Aw l z=.tup [.nilp,.int .i64 (cg l z)]:=by unfold Aw;rw[if_neg h]
   rw[hv] at hc
   refine ba (n:=n+12) Tryz.func23 rfl rfl rfl (Q0 (n+12) l z H (cg l z)) (cP _ (n+12) 0 (fun k=>s6 (aO _) (hc k))) (af _ _) (ag _ _) ?_
   exact wF
theorem R9 (m:Nat) (z y:Nat→Int) (a b:Bool) (hm:m≤1000) (hz:∀ j,j<m→z j=y j):cd (n+1) (.fn 31) [bD m z a,bD m y b] H=some (.bool true,H):=by
 have l:=j9 (n:=n) (f:=31) (nt:=26) (c:=part Tryz.f31 [1,1,0,1,0,0]) 0 (fun j=>DH m m z y a b (j:Int)) (fun _=>aC::H) m (DH m m z y a b (Int.ofNat m)++[(14,.bool false)],aC::H) (by omega) (fun j hj=>?_) ?_
 · refine ba (n:=n) Tryz.func31 rfl rfl rfl (Un n H m m z y a b) (aI n) (bz (af _ _) RU (fun x hx=>by rw[← Tr.ab hx];simp only[gi.st,aP];exact l)) (ag _ _) ?_
   exact wF
 · have ej:aK .i64 (j:Int) (Int.ofNat 1)=((j+1:Nat):Int):=by rw[bH,show Int.ofNat 1=1 from rfl];exact cr (by omega) (by omega)
   have:=hz j hj
   refine aD (t31 n H m m z y a b (j:Int)) (aI n) (af _ _) (ag _ _) ?_
   repeat' first | (refine Tr.al (fun hc=>?_) (fun hc=>?_)<;>(try simp (disch:=omega) only[nV,nW,Nat.mul_one] at hc)<;>try omega) | (refine Tr.a8 ?_ ?_;· (try simp (disch:=omega) only[nV,nW,Nat.mul_one]);try omega) | (refine Tr.aw ?_ ?_;· first | exact trivial | rfl | exact ⟨rfl,rfl⟩ | exact ⟨rfl,rfl,rfl⟩ | (simp (disch:=omega) only[nV,nW,Nat.mul_one];done) | ((try simp (disch:=omega) only[nV,nW,Nat.mul_one]);omega)) | fail
   refine Tr.av ⟨rfl,?_⟩
   rw[ej];rfl
 · obtain ⟨x,h1,rfl⟩:=aD (Q:=fun x=>x=(.exit 0,DH m m z y a b (Int.ofNat m)++[(14,.bool false)],aC::H)) (t31 n H m m z y a b (Int.ofNat m)) (aI n) (af _ _) (ag _ _) (by
    exact wF)
   exact h1
theorem Ow:cd (n+1) (.fn 31) [.nils,.nils] H=some (.bool true,H) :=
 ba (n:=n) Tryz.func31 rfl rfl rfl (Q1 n H) (aI n) (af _ _) (ag _ _) (Tr.av ⟨rfl,rfl⟩)
end
end Go.Eng
end
section
namespace Go.Eng
open Go.Proofs
end Go.Eng
end
section
namespace Go.Eng
open Go.Proofs
section
variable (n:Nat) (m:Nat) (g:Nat→Int) (H:aa) (j:Int) (hm:m≤1000)
include hm
end
section
variable (n l:Nat) (z:Nat→Int) (m:Nat) (g:Nat→Int) (H:aa) (j:Nat) (kb:Nat) (hb:Nat→Int) (hl:l≤14) (hm:1≤m∧m≤1000) (hg:∀ j,j<m→xG l z (g j)) (hj:j<l)
include hg in
end
end Go.Eng
end
section
namespace Go.Eng
open Go.Proofs
noncomputable def rT (l:Nat) (z:Nat→Int):List Int:=dl (vf z []) l
section
variable (n l:Nat) (z:Nat→Int) (H:aa)
theorem Lp (j:Nat) (h:j<l):(j:Int) ∈ rT l z:=(qm _ _ _).2 ⟨j,rfl,h,by unfold vf;rw[tR];rfl⟩
end
end Go.Eng
end
section
namespace Go.Eng
open Go.Proofs
end Go.Eng
end
section
namespace Go.Eng
open Go.Proofs
section
variable (z z':Nat→Int) (φ:Int→Int)
end
theorem JY {l:Nat} {z:Nat→Int} (hl:1≤l∧l≤14) (h:∀ j,j<l→0≤z (j*5)∧z (j*5)≤z (j*5+1)∧z (j*5+1)≤10000∧0≤z (j*5+2)∧z (j*5+2)≤z (j*5+3)∧z (j*5+3)≤10000∧0≤z (j*5+4)∧z (j*5+4)≤100000):bh l z=0:=by
 unfold bh
 rw[if_neg (by omega)]
 cases he:iA (iW z) l with
 | false=>rfl
 | true =>
   obtain ⟨j,hj,e⟩:=(eI _ _).1 he
   have h1:=h j hj
   have h2:iW z j=false:=by simp[iW];omega
   rw[h2] at e;cases e
end Go.Eng
end
section
namespace Go.Eng
open Go.Proofs
theorem KC (b:Nat):aq 1 b=b:=by rw[eL,Nat.one_mul]
section
variable (n l:Nat) (z:Nat→Int) (H:aa)
noncomputable def ec (k:Nat) (f:Nat→Int):Nat:=(tu f (rT k f)).length
end
end Go.Eng
end
section
namespace Go.Eng
open Go.Proofs
theorem rV {j:Nat} (h:j<2 ^ 31):aK .i64 (j:Int) (Int.ofNat 1)=((j+1:Nat):Int):=by rw[bH,show Int.ofNat 1=1 from rfl];exact cr (by omega) (by omega)
theorem Hr (j:Nat):au 0 (j:Int) 1=j:=by rw[bB];omega
def F1 (b:Nat→Int) (j:Nat):Bool:=decide (b j < -10000) || (decide (10000<b j) || (decide (0<j) && decide (b j≤b (j-1))))
def GQ (k:Nat) (b:Nat→Int):Int:=if 14<k then 6 else if iA (F1 b) k=true then 3 else 0
section
variable (n k:Nat) (b:Nat→Int) (full:Bool) (H:aa)
end
end Go.Eng
end
section
namespace Go.Eng
open Go.Proofs
end Go.Eng
end
section
namespace Go.Eng
open Go.Proofs
noncomputable def yg (l:Nat) (z:Nat→Int) (k:Nat) (b:Nat→Int):Int:=if bh l z≠0 then bh l z else if GQ k b≠0 then GQ k b else if iA (fun j=>!I8 z b k j) l=true then 22 else 0
section
variable (n l k:Nat) (z b:Nat→Int) (full:Bool) (H:aa)
end
end Go.Eng
end
section
namespace Go.Eng
open Go.Proofs
section
variable (n l k:Nat) (z b:Nat→Int) (full:Bool) (H:aa)
end
end Go.Eng
end
section
namespace Go.Eng
open Go.Proofs
noncomputable def gX (A:List AV) (V:AV):List AV→Option (Prop×AV):=fun x=>some (x=A,V)
noncomputable def tX (t:me) (f:FuncId) (A:List AV) (V:AV):me:=iz t f (gX A V)
theorem gb {c f:Nat} {t:me} {A:List AV} {V:AV} (ht:t.Ok (cd c)) (h:∀ H,cd c (.fn f) A H=some (V,H)):(tX t f A V).Ok (cd c):=by
 refine dQ ht (fun args p v hg hp H=>?_)
 unfold gX at hg
 simp only[nP] at hg
 obtain ⟨rfl,rfl⟩:=hg
 rw[hp];exact h H
theorem I7 {c:Nat} {t:me} (h:0<c) (ht:t.Ok (cd c)):(iz t 15 Ja).Ok (cd c):=by
 obtain ⟨m,rfl⟩:∃ m,c=m+1:=⟨c-1,by omega⟩
 exact OK ht
section
variable (n l k:Nat) (z b:Nat→Int) (full:Bool) (H:aa)
end
end Go.Eng
end
section
namespace Go.Eng
open Go.Proofs
end Go.Eng
end
section
namespace Go.Eng
open Go.Proofs
theorem HH (A:List Int):((List.range A.length).map fun q=>aB A (0+q))=A:=by
 apply List.ext_getElem (by simp)
 intro i h1 h2
 simp only[List.getElem_map,List.getElem_range,Nat.zero_add,qJ,List.getD_eq_getElem?_getD,List.getElem?_eq_getElem h2,Option.getD_some]
theorem KX (A:List Int):Em g8 (aB A) 0 A.length=aB (g8 A):=by
 funext x
 have hl:(g8 A).length=A.length:=List.length_mergeSort A
 unfold Em
 rw[HH,qJ,qJ]
 by_cases h:x<A.length
 · rw[if_pos (by omega),Nat.sub_zero]
 · rw[if_neg (by omega),List.getD_eq_getElem?_getD,List.getD_eq_getElem?_getD,List.getElem?_eq_none (by omega),List.getElem?_eq_none (by omega)]
theorem CS (L:List Int):(g8 L).length=L.length:=List.length_mergeSort L
end Go.Eng
end
section
namespace Go.Eng
open Go.Proofs
def KJ (l:Nat) (b:Nat→Int) (j:Nat):Bool:=!(decide (0≤b j) && decide (b j<l)) || (decide (0<j) && decide (b j≤b (j-1)))
def Qd (z b:Nat→Int) (j:Nat):Bool:=decide (bE z (b j).toNat<cq z (b j).toNat)
def Qc (z:Nat→Int) (x y:Int):Bool:=decide (max (cq z x.toNat) (cq z y.toNat)≤min (bE z x.toNat) (bE z y.toNat))
def Qb (z b:Nat→Int) (i:Nat):Bool:=iA (fun j=>Qc z (b i) (b j)) i
def Lg (l:Nat) (z:Nat→Int) (k:Nat) (b:Nat→Int):Int:=if bh l z≠0 then bh l z else if iA (KJ l b) k=true then 3 else if iA (Qd z b) k=true then 22 else if iA (Qb z b) k=true then 14 else 0
section
variable (n l k:Nat) (z b:Nat→Int) (H:aa)
end
end Go.Eng
end
section
namespace Go.Eng
open Go.Proofs
theorem FI (z g:Nat→Int):∀ (k j:Nat),j≤k→bE z (dG z g k).toNat≤bE z (g j).toNat
 | 0,j,h=>by
   have:j=0:=by omega
   subst this;exact Int.le_refl _
 | k + 1,j,h=>by
   have e:dG z g (k+1)=if bE z (g (k+1)).toNat<bE z (dG z g k).toNat then g (k+1) else dG z g k:=rfl
   rw[e]
   by_cases hj:j=k+1
   · subst hj;split
     · exact Int.le_refl _
     · omega
   · have:=FI z g k j (by omega)
     split
     · omega
     · exact this
theorem xz {L:List Int} {x:Int} (h:x ∈ L):∃ j,j<L.length∧aB L j=x:=by
 obtain ⟨j,hj,rfl⟩:=List.getElem_of_mem h
 exact ⟨j,hj,by rw[qJ,List.getD_eq_getElem?_getD,List.getElem?_eq_getElem hj];rfl⟩
theorem gZ (z:Nat→Int) (b x:Int):pB z b x=true↔cq z x.toNat≤b∧b≤bE z x.toNat:=by
 unfold pB wX;rw[Bool.and_eq_true,decide_eq_true_eq,decide_eq_true_eq]
theorem wP (l:Nat) (z:Nat→Int):∀ (k:Nat) (L:List Int),L.length≤k→(∀ x ∈ L,xG l z x) →
 (∀ x ∈ L,∃ p ∈ pc z k L,pB z p.1 x=true)∧(∀ p ∈ pc z k L,p.2 ∈ L∧p.1=bE z p.2.toNat)∧(pc z k L).Pairwise (fun p q=>p.1<cq z q.2.toNat)
 | 0,L,h,_=>by
   have:L=[]:=List.eq_nil_of_length_eq_zero (by omega)
   subst this;exact ⟨(fun x h=>by cases h),(fun p h=>by simp[pc] at h),(by simp[pc])⟩
 | k+1,[],_,_=>⟨(fun x h=>by cases h),(fun p h=>by simp[pc] at h),(by simp[pc])⟩
 | k + 1,a::r,h,hok=>by
   have e:pc z (k+1) (a::r)=(bE z (dG z (aB (a::r)) r.length).toNat,dG z (aB (a::r)) r.length)::pc z k (cu (pB z (bE z (dG z (aB (a::r)) r.length).toNat)) (aB (a::r)) (r.length+1)):=rfl
   rw[e]
   have hmin:=FI z (aB (a::r)) r.length
   obtain ⟨i0,hi1,hi2⟩:=xy z (aB (a::r)) r.length
   have hin:dG z (aB (a::r)) r.length ∈ a::r:=by rw[hi2];exact nz (a::r) i0 (by simp;omega)
   have hok0:=hok _ hin
   generalize hn:dG z (aB (a::r)) r.length=n at *
   have hm:=FD (pB z (bE z n.toNat)) (aB (a::r)) (r.length+1)
   have hsub:∀ x ∈ cu (pB z (bE z n.toNat)) (aB (a::r)) (r.length+1),x ∈ a::r∧pB z (bE z n.toNat) x=false:=fun x hx=>by
    obtain ⟨j,h1,h2,h3⟩:=(hm x).1 hx
    exact ⟨by rw[← h2];exact nz (a::r) j (by simpa using h1),h3⟩
   have hlt:(cu (pB z (bE z n.toNat)) (aB (a::r)) (r.length+1)).length<r.length+1:=Ji _ _ _ i0 (by omega) (by rw[← hi2];exact (gZ _ _ _).2 ⟨hok0.2.2,Int.le_refl _⟩)
   obtain ⟨s1,s2,s3⟩:=wP l z k (cu (pB z (bE z n.toNat)) (aB (a::r)) (r.length+1)) (by simp at h;omega) (fun x hx=>hok x (hsub x hx).1)
   refine ⟨fun x hx=>?_,fun p hp=>?_,List.Pairwise.cons (fun q hq=>?_) s3⟩
   · cases hb:pB z (bE z n.toNat) x with
     | true=>exact ⟨_,List.mem_cons_self,hb⟩
     | false =>
       obtain ⟨j,hj,hx2⟩:=xz hx
       obtain ⟨p,hp,h2⟩:=s1 x ((hm x).2 ⟨j,by simpa using hj,hx2,hb⟩)
       exact ⟨p,List.mem_cons_of_mem _ hp,h2⟩
   · rcases List.mem_cons.1 hp with rfl | hp
     · exact ⟨hin,rfl⟩
     · obtain ⟨h1,h2⟩:=s2 p hp
       exact ⟨(hsub _ h1).1,h2⟩
   · obtain ⟨h1,_⟩:=s2 q hq
     obtain ⟨h3,h4⟩:=hsub _ h1
     obtain ⟨j,hj,hx2⟩:=xz h3
     have h5:=hmin j (by simp at hj;omega)
     rw[hx2] at h5
     show bE z n.toNat < _
     apply Int.not_le.1
     intro hc
     have:=(gZ z (bE z n.toNat) q.2).2 ⟨hc,h5⟩
     rw[h4] at this;cases this
def uJ (z:Nat→Int) (a c:Int):Prop:=∀ b,¬ (pB z b a=true∧pB z b c=true)
theorem qS (z:Nat→Int):∀ (A B:List Int),(∀ a ∈ A,∃ b ∈ B,pB z b a=true)→A.Pairwise (uJ z)→A.length≤B.length
 | [],B,_,_=>Nat.zero_le _
 | a::A,B,h,hd=>by
   obtain ⟨b,hb,h1⟩:=h a List.mem_cons_self
   rw[List.pairwise_cons] at hd
   have ih:=qS z A (B.erase b) (fun a' ha'=>by
    obtain ⟨b',hb',h2⟩:=h a' (List.mem_cons_of_mem _ ha')
    exact ⟨b',(List.mem_erase_of_ne (fun e=>by subst e;exact hd.1 a' ha' _ ⟨h1,h2⟩)).2 hb',h2⟩) hd.2
   have:=List.length_erase_of_mem hb
   have hp:0<B.length:=List.length_pos_of_mem hb
   simp only[List.length_cons]
   omega
theorem xl (l:Nat) (z:Nat→Int) (L:List Int) (hok:∀ x ∈ L,xG l z x) :
 (∀ x ∈ L,∃ b ∈ (tu z L).map (·.1),pB z b x=true)∧(∀ a ∈ (tu z L).map (·.2),a ∈ L)∧((tu z L).map (·.2)).Pairwise (uJ z):=by
 obtain ⟨h1,h2,h3⟩:=wP l z L.length L (Nat.le_refl _) hok
 refine ⟨fun x hx=>?_,fun a ha=>?_,?_⟩
 · obtain ⟨p,hp,h⟩:=h1 x hx
   exact ⟨p.1,List.mem_map_of_mem hp,h⟩
 · obtain ⟨p,hp,rfl⟩:=List.mem_map.1 ha
   exact (h2 p hp).1
 · rw[List.pairwise_map]
   refine List.Pairwise.imp_of_mem (fun {p q} hp hq hpq b hb=>?_) h3
   obtain ⟨e1,e2⟩:=hb
   rw[gZ] at e1 e2
   have:=(h2 p hp).2
   omega
end Go.Eng
end
section
namespace Go.Eng
open Go.Proofs
end Go.Eng
end
section
namespace Go.Eng
open Go.Proofs
def Lm (z:Nat→Int):Nat→Bool
 | 0=>true
 | j+1=>Lm z j && decide (cq z j≤bE z j)
theorem xZ (z:Nat→Int) (j:Nat):Lm z j=true↔∀ i,i<j→cq z i≤bE z i:=by
 induction j with
 | zero=>simp[Lm]
 | succ j ih =>
   unfold Lm
   rw[Bool.and_eq_true,ih,decide_eq_true_eq]
   constructor
   · rintro ⟨h1,h2⟩ i hi
     by_cases e:i<j
     · exact h1 i e
     · have:i=j:=by omega
       subst this;exact h2
   · intro h
     exact ⟨fun i hi=>h i (by omega),h j (by omega)⟩
theorem CP (l:Nat) (z:Nat→Int) (h:bh l z=0):cg l z=if Lm z l=true then 0 else 22:=by
 rw[GK,if_neg (fun x=>x h)]
 cases e:iA (GS z) l with
 | false=>rw[if_neg (by decide),if_pos ((xZ z l).2 ((xF l z).1 e))]
 | true =>
   rw[if_pos rfl,if_neg]
   intro hs
   have:=(xF l z).2 ((xZ z l).1 hs)
   rw[e] at this;cases this
section
variable (n l p:Nat) (z x:Nat→Int) (H:aa) (w:Int)
end
end Go.Eng
end
section
namespace Go.Eng
open Go.Proofs
theorem BU {l:Nat} {z:Nat→Int} (h:cg l z=0):Dm l z=.tup [bD (ec l z) (lr (dM l z)) true,.int .i64 0]:=by
 unfold Dm ec;rw[if_pos h]
 have:(dM l z).length=(tu z (rT l z)).length:=by unfold dM rT;simp
 rw[this]
theorem BC {l:Nat} {z:Nat→Int} (h:bh l z=0) (h2:∀ i,i<l→cq z i≤bE z i):cg l z=0:=by
 rw[CP l z h,if_pos ((xZ z l).2 h2)]
section
variable (n l:Nat) (z:Nat→Int) (H:aa) (w:Int)
end
end Go.Eng
end
section
namespace Go.Eng
open Go.Proofs
theorem mF {p:Nat→Bool} {k:Nat} (h:∀ j,j<k→p j=false):iA p k=false:=by
 cases e:iA p k with
 | false=>rfl
 | true =>
   obtain ⟨j,hj,e2⟩:=(eI _ _).1 e
   rw[h j hj] at e2;cases e2
theorem jS {p:Nat→Bool} {k:Nat} (h:¬ iA p k=true):∀ j,j<k→p j=false:=fun j hj=>by
 cases e:p j with
 | false=>rfl
 | true=>exact absurd ((eI _ _).2 ⟨j,hj,e⟩) h
theorem Dw {z:Nat→Int} {a c:Int} (h:uJ z a c):uJ z c a:=fun b hb=>h b ⟨hb.2,hb.1⟩
theorem qf {l:Nat} {z:Nat→Int} (h:cg l z=0):∀ x ∈ rT l z,xG l z x:=fun x hx=>by
 obtain ⟨h1,h2⟩:=jG l z h
 obtain ⟨i,rfl,h5,_⟩:=(qm _ _ _).1 hx
 exact ⟨by omega,by omega,by rw[Int.toNat_natCast];exact h2 i h5⟩
theorem Ak (L:List Int):(g8 L).Perm L:=List.mergeSort_perm L _
theorem Gz (L:List Int):(g8 L).Pairwise (·≤·):=by
 have:=List.pairwise_mergeSort (le:=fun x y:Int=>decide (x≤y)) (fun a b c h1 h2=>by simp only[decide_eq_true_eq] at *;omega) (fun a b=>by simp only[Bool.or_eq_true,decide_eq_true_eq];omega) L
 exact this.imp (fun h=>by simpa using h)
structure Rt (l:Nat) (z:Nat→Int) (S:List Int):Prop where
 ok:∀ a ∈ S,xG l z a
 dj:S.Pairwise (uJ z)
 lt:S.Pairwise (· < ·)
theorem IG {l:Nat} {z:Nat→Int} (h:cg l z=0):Rt l z (g8 (Ca l z)):=by
 obtain ⟨_,a2,a3⟩:=xl l z (rT l z) (qf h)
 have a2:∀ a ∈ Ca l z,a ∈ rT l z:=a2
 have a3:(Ca l z).Pairwise (uJ z):=a3
 have hp:=Ak (Ca l z)
 have ok:∀ a ∈ g8 (Ca l z),xG l z a:=fun a ha=>qf h a (a2 a (hp.mem_iff.1 ha))
 have dj:(g8 (Ca l z)).Pairwise (uJ z):=(hp.pairwise_iff (fun {a b}=>Dw)).2 a3
 refine ⟨ok,dj,?_⟩
 refine (List.Pairwise.and dj (Gz (Ca l z))).imp_of_mem (fun {a b} ha hb hab=>?_)
 obtain ⟨h1,h2⟩:=hab
 apply Int.not_le.1
 intro hc
 have:a=b:=by omega
 subst this
 have:=(ok a ha).2.2
 exact h1 (bE z a.toNat) ⟨(gZ _ _ _).2 ⟨this,Int.le_refl _⟩,(gZ _ _ _).2 ⟨this,Int.le_refl _⟩⟩
theorem gV (S:List Int) (j:Nat) (hj:j<S.length):aB S j=S[j]:=by
 rw[qJ,List.getD_eq_getElem?_getD,List.getElem?_eq_getElem hj];rfl
theorem JM {l:Nat} {z:Nat→Int} {S:List Int} (h:bh l z=0) (a:Rt l z S):Lg l z S.length (aB S)=0:=by
 have hlt:∀ i j,(hi:i<S.length)→(hj:j<S.length)→i<j→S[i]<S[j]:=List.pairwise_iff_getElem.1 a.lt
 have hdj:∀ i j,(hi:i<S.length)→(hj:j<S.length)→i<j→uJ z S[i] S[j]:=List.pairwise_iff_getElem.1 a.dj
 have hok:∀ j,(hj:j<S.length)→xG l z S[j]:=fun j hj=>a.ok _ (List.getElem_mem hj)
 unfold Lg
 rw[if_neg (fun x=>x h),if_neg,if_neg,if_neg]
 · rw[mF];· decide
   intro i hi
   unfold Qb
   refine mF (fun j hj=>?_)
   rw[gV S i hi,gV S j (by omega)]
   unfold Qc
   refine decide_eq_false (fun hc=>?_)
   refine hdj j i (by omega) hi hj (max (cq z (S[i]).toNat) (cq z (S[j]).toNat)) ⟨(gZ _ _ _).2 ⟨?_,?_⟩,(gZ _ _ _).2 ⟨?_,?_⟩⟩<;>omega
 · rw[mF];· decide
   intro j hj
   unfold Qd
   rw[gV S j hj]
   have:=(hok j hj).2.2
   exact decide_eq_false (by omega)
 · rw[mF];· decide
   intro j hj
   unfold KJ
   rw[gV S j hj]
   obtain ⟨h1,h2,_⟩:=hok j hj
   rw[decide_eq_true h1,decide_eq_true h2]
   by_cases h0:0<j
   · rw[gV S (j-1) (by omega)]
     have:=hlt (j-1) j (by omega) hj (by omega)
     rw[decide_eq_false (show ¬ S[j]≤S[j-1] by omega)];simp
   · rw[decide_eq_false h0];rfl
theorem JV {l:Nat} {z:Nat→Int} {k:Nat} {b:Nat→Int} (h:Lg l z k b=0):bh l z=0∧(∀ j,j<k→xG l z (b j))∧((List.range k).map b).Pairwise (uJ z):=by
 unfold Lg at h
 split at h
 · exact absurd h (by assumption)
 rename_i h0
 split at h
 · cases h
 rename_i h1
 split at h
 · cases h
 rename_i h2
 split at h
 · cases h
 rename_i h3
 have h1:=jS h1
 have h2:=jS h2
 have h3:=jS h3
 refine ⟨Decidable.byContradiction h0,fun j hj=>?_,?_⟩
 · have:=h1 j hj
   simp only[KJ,Bool.or_eq_false_iff,Bool.not_eq_false',Bool.and_eq_true,decide_eq_true_eq] at this
   have h5:=h2 j hj
   unfold Qd at h5
   have:=of_decide_eq_false h5
   exact ⟨by omega,by omega,by omega⟩
 · rw[List.pairwise_map,List.pairwise_iff_getElem]
   intro i j hi hj hij q hq
   rw[List.getElem_range,List.getElem_range] at hq
   simp at hi hj
   have h5:=h3 j hj
   unfold Qb at h5
   have h6:=jS (by rw[h5];decide) i hij
   unfold Qc at h6
   have:=of_decide_eq_false h6
   obtain ⟨q1,q2⟩:=hq
   rw[gZ] at q1 q2
   omega
theorem pd {l:Nat} {z:Nat→Int} {k:Nat} {b:Nat→Int} (h:yg l z k b=0):bh l z=0∧k≤14∧(∀ j,0<j→j<k→b (j-1)<b j)∧∀ i,i<l→∃ j,j<k∧pB z (b j) (i:Int)=true:=by
 unfold yg at h
 split at h
 · exact absurd h (by assumption)
 rename_i h0
 split at h
 · rename_i h1;exact absurd h h1
 rename_i h1
 split at h
 · cases h
 rename_i h2
 have h1:GQ k b=0:=Decidable.byContradiction h1
 unfold GQ at h1
 split at h1
 · cases h1
 rename_i h3
 split at h1
 · cases h1
 rename_i h4
 have h4:=jS h4
 have h2:=jS h2
 refine ⟨Decidable.byContradiction h0,by omega,fun j hj hk=>?_,fun i hi=>?_⟩
 · have:=h4 j hk
   simp only[F1,Bool.or_eq_false_iff,Bool.and_eq_false_iff,decide_eq_false_iff_not] at this
   omega
 · have:=h2 i hi
   simp only[Bool.not_eq_false'] at this
   unfold I8 at this
   obtain ⟨j,hj,e⟩:=(eI _ _).1 this
   exact ⟨j,hj,by unfold pB;rw[Int.toNat_natCast];exact e⟩
theorem Gi {k:Nat} {b:Nat→Int} {j:Nat} (h:j<k):b j ∈ (List.range k).map b:=List.mem_map.2 ⟨j,List.mem_range.2 h,rfl⟩
theorem LH {l:Nat} {z:Nat→Int} {k:Nat} {b:Nat→Int} (h:yg l z k b=0) (A:List Int) (hA:∀ a ∈ A,xG l z a) (hd:A.Pairwise (uJ z)):A.length≤k:=by
 obtain ⟨_,_,_,h4⟩:=pd h
 have:=qS z A ((List.range k).map b) (fun a ha=>by
  obtain ⟨o1,o2,_⟩:=hA a ha
  obtain ⟨j,hj,e⟩:=h4 a.toNat (by omega)
  exact ⟨b j,Gi hj,by rw[Int.toNat_of_nonneg o1] at e;exact e⟩) hd
 simpa using this
theorem AM {l:Nat} {z:Nat→Int} {k:Nat} {b:Nat→Int} (h:yg l z k b=0):cg l z=0:=by
 obtain ⟨h1,_,_,h4⟩:=pd h
 refine BC h1 (fun i hi=>?_)
 obtain ⟨j,hj,e⟩:=h4 i hi
 rw[gZ,Int.toNat_natCast] at e
 omega
theorem RS (l:Nat) (z:Nat→Int):(Ca l z).length=ec l z:=by unfold Ca ec rT;rw[List.length_map]
theorem IW (l:Nat) (z:Nat→Int):(dM l z).length=ec l z:=by unfold dM ec rT;rw[List.length_map]
theorem Lr {l:Nat} {z:Nat→Int} (h:cg l z=0):Lg l z (ec l z) (aB (g8 (Ca l z)))=0:=by
 have:=JM (jG l z h).1 (IG h)
 rwa [CS,RS] at this
end Go.Eng
end
section
namespace Go.Eng
open Go.Proofs
theorem pC {l:Nat} {z:Nat→Int} (h:cg l z=0):(tu z (rT l z)).Pairwise (fun p q=>p.1<cq z q.2.toNat)∧(∀ p ∈ tu z (rT l z),xG l z p.2∧p.1=bE z p.2.toNat):=by
 obtain ⟨h1,h2,h3⟩:=wP l z (rT l z).length (rT l z) (Nat.le_refl _) (qf h)
 exact ⟨h3,fun p hp=>⟨qf h _ (h2 p hp).1,(h2 p hp).2⟩⟩
theorem Fm {l:Nat} {z:Nat→Int} (h:cg l z=0):(dM l z).Pairwise (· < ·):=by
 obtain ⟨h1,h2⟩:=pC h
 show ((tu z (rT l z)).map (·.1)).Pairwise (· < ·)
 rw[List.pairwise_map]
 refine h1.imp_of_mem (fun {p q} hp hq hpq=>?_)
 obtain ⟨⟨_,_,o⟩,e⟩:=h2 q hq
 omega
theorem Kf {l:Nat} {z:Nat→Int} (h:cg l z=0):∀ b ∈ dM l z,-10000≤b∧b≤10000:=fun b hb=>by
 obtain ⟨h1,h2⟩:=pC h
 have hb:b ∈ (tu z (rT l z)).map (·.1):=hb
 obtain ⟨p,hp,rfl⟩:=List.mem_map.1 hb
 obtain ⟨⟨o1,o2,o⟩,e⟩:=h2 p hp
 obtain ⟨_,hz⟩:=bM (jG l z h).1
 have:=hz p.2.toNat (by omega)
 unfold bE at e
 omega
theorem vz {l:Nat} {z x:Nat→Int} (h:cg l z=0) (hx:∀ j,j<ec l z→x j=aB (dM l z) j):yg l z (ec l z) x=0:=by
 have hB:=IW l z
 have hlt:∀ i j,(hi:i<(dM l z).length)→(hj:j<(dM l z).length)→i<j→(dM l z)[i]<(dM l z)[j]:=List.pairwise_iff_getElem.1 (Fm h)
 obtain ⟨h1,h2⟩:=jG l z h
 obtain ⟨hl,_⟩:=bM h1
 have hP:ec l z≤l:=AS l z
 unfold yg
 rw[if_neg (fun q=>q h1)]
 have e:GQ (ec l z) x=0:=by
  unfold GQ
  rw[if_neg (by omega),if_neg]
  rw[mF];· decide
  intro j hj
  have r:=Kf h _ (List.getElem_mem (show j<(dM l z).length by omega))
  have ej:x j=(dM l z)[j]'(by omega):=by rw[hx j hj,gV _ j (by omega)]
  unfold F1
  rw[decide_eq_false (by omega),decide_eq_false (by omega)]
  by_cases h0:0<j
  · have:=hlt (j-1) j (by omega) (by omega) (by omega)
    have ej1:x (j-1)=(dM l z)[j-1]'(by omega):=by rw[hx (j-1) (by omega),gV _ (j-1) (by omega)]
    rw[decide_eq_false (show ¬ x j≤x (j-1) by omega)];simp
  · rw[decide_eq_false h0];rfl
 rw[if_neg (fun q=>q e),if_neg]
 rw[mF];· decide
 intro i hi
 obtain ⟨a1,_,_⟩:=xl l z (rT l z) (qf h)
 obtain ⟨b,hb,hp⟩:=a1 i (Lp l z i hi)
 have hb:b ∈ dM l z:=hb
 obtain ⟨j,hj,hb2⟩:=xz hb
 have:I8 z x (ec l z) i=true:=by
  unfold I8
  refine (eI _ _).2 ⟨j,by omega,?_⟩
  rw[hx j (by omega),hb2]
  have e2:pB z b (i:Int)=wX z b i:=by unfold pB;rw[Int.toNat_natCast]
  rw[← e2];exact hp
 rw[this];rfl
theorem LG {l:Nat} {z:Nat→Int} {k m:Nat} {b o:Nat→Int} (h:yg l z k b=0) (ha:Lg l z m o=0):m≤k:=by
 obtain ⟨_,h2,h3⟩:=JV ha
 have:=LH h ((List.range m).map o) (fun a hm=>by
  obtain ⟨j,hj,rfl⟩:=List.mem_map.1 hm
  exact h2 j (List.mem_range.1 hj)) h3
 simpa using this
theorem JF {l:Nat} {z:Nat→Int} {k:Nat} {b:Nat→Int} (h:yg l z k b=0):ec l z≤k:=by
 have hw:=AM h
 have:=LG h (Lr hw)
 exact this
theorem Fz {k:Nat} {b:Nat→Int} (h:∀ j,0<j→j<k→b (j-1)<b j):∀ d i,i+d<k→b i≤b (i+d)
 | 0,i,_=>Int.le_refl _
 | d+1,i,hk=>by
   have:=Fz h d i (by omega)
   have:=h (i+d+1) (by omega) (by omega)
   rw[show i+d+1-1=i+d by omega] at this
   show b i≤b (i+d+1)
   omega
theorem so {l:Nat} {z:Nat→Int} {b:Nat→Int} (h:yg l z (ec l z) b=0):∀ i,i<ec l z→b i≤aB (dM l z) i:=fun i hi=>by
 have hw:=AM h
 obtain ⟨_,_,hinc,hdo⟩:=pd h
 obtain ⟨hp1,hp2⟩:=pC hw
 have hB:=IW l z
 apply Int.not_lt.1
 intro hc
 have hlen:(tu z (rT l z)).length=ec l z:=rfl
 have hlt:∀ i j,(hi:i<(dM l z).length)→(hj:j<(dM l z).length)→i<j→(dM l z)[i]<(dM l z)[j]:=List.pairwise_iff_getElem.1 (Fm hw)
 have hgb:∀ j,(hj:j<ec l z)→((tu z (rT l z))[j]'(by omega)).1=aB (dM l z) j:=fun j hj=>by
  rw[gV _ j (by omega)]
  show _=((tu z (rT l z)).map (·.1))[j]'(by simp;omega)
  rw[List.getElem_map]
 obtain ⟨_,_,a3⟩:=xl l z (rT l z) (qf hw)
 have:=qS z (((tu z (rT l z)).map (·.2)).take (i+1)) ((List.range i).map b) (fun a ha=>by
  obtain ⟨j,hj,rfl⟩:=List.getElem_of_mem ha
  rw[List.getElem_take,List.getElem_map]
  simp at hj
  obtain ⟨⟨o1,o2,_⟩,e2⟩:=hp2 _ (List.getElem_mem (show j<(tu z (rT l z)).length by omega))
  have e1:=hgb j (by omega)
  generalize (tu z (rT l z))[j]=p at *
  obtain ⟨q,hq,e⟩:=hdo p.2.toNat (by omega)
  rw[Int.toNat_of_nonneg o1] at e
  refine ⟨b q,Gi ?_,e⟩
  rw[gZ] at e
  apply Nat.not_le.1
  intro hqi
  have h5:=Fz hinc (q-i) i (by omega)
  rw[show i+(q-i)=q by omega] at h5
  have h6:aB (dM l z) j≤aB (dM l z) i:=by
   rw[gV _ j (by omega),gV _ i (by omega)]
   by_cases e:j=i
   · subst e;exact Int.le_refl _
   · exact Int.le_of_lt (hlt j i (by omega) (by omega) (by omega))
  omega) (List.Pairwise.sublist (List.take_sublist _ _) a3)
 simp at this
 omega
end Go.Eng
end
section
namespace Go.Eng
open Go.Proofs
def AE (l:Nat) (z:Nat→Int) (l':Nat) (z':Nat→Int):Prop:=∀ i,i<l→∃ i',i'<l'∧cq z i≤cq z' i'∧bE z' i'≤bE z i
theorem I3 {l:Nat} {z:Nat→Int} {k:Nat} {b:Nat→Int} (h:bh l z=0) (hk:k≤14) (hr:∀ j,j<k→-10000≤b j∧b j≤10000) (hi:∀ j,0<j→j<k→b (j-1)<b j) (hd:∀ i,i<l→∃ j,j<k∧cq z i≤b j∧b j≤bE z i):yg l z k b=0:=by
 unfold yg
 rw[if_neg (fun q=>q h)]
 have e:GQ k b=0:=by
  unfold GQ
  rw[if_neg (by omega),if_neg]
  rw[mF];· decide
  intro j hj
  have:=hr j hj
  unfold F1
  rw[decide_eq_false (by omega),decide_eq_false (by omega)]
  by_cases h0:0<j
  · have:=hi j h0 hj
    rw[decide_eq_false (show ¬ b j≤b (j-1) by omega)];simp
  · rw[decide_eq_false h0];rfl
 rw[if_neg (fun q=>q e),if_neg]
 rw[mF];· decide
 intro i hi
 obtain ⟨j,hj,h1,h2⟩:=hd i hi
 have:I8 z b k i=true:=by
  unfold I8
  refine (eI _ _).2 ⟨j,hj,?_⟩
  have e2:pB z (b j) (i:Int)=wX z (b j) i:=by unfold pB;rw[Int.toNat_natCast]
  rw[← e2,gZ,Int.toNat_natCast]
  exact ⟨h1,h2⟩
 rw[this];rfl
theorem I4 {l:Nat} {z:Nat→Int} {k:Nat} {b:Nat→Int} (h:yg l z k b=0):∀ j,j<k→-10000≤b j∧b j≤10000:=by
 unfold yg at h
 split at h
 · exact absurd h (by assumption)
 split at h
 · rename_i h1;exact absurd h h1
 rename_i h1
 have h1:GQ k b=0:=Decidable.byContradiction h1
 unfold GQ at h1
 split at h1
 · cases h1
 split at h1
 · cases h1
 rename_i h4
 have h4:=jS h4
 intro j hj
 have:=h4 j hj
 simp only[F1,Bool.or_eq_false_iff,Bool.and_eq_false_iff,decide_eq_false_iff_not] at this
 omega
theorem wR {l l':Nat} {z z':Nat→Int} (hs:AE l z l' z') (hc:bh l z=0) {k:Nat} {b:Nat→Int} (h:yg l' z' k b=0):yg l z k b=0:=by
 obtain ⟨_,h2,h3,h4⟩:=pd h
 refine I3 hc h2 (I4 h) h3 (fun i hi=>?_)
 obtain ⟨i',a,b',c⟩:=hs i hi
 obtain ⟨j,hj,e⟩:=h4 i' a
 rw[gZ,Int.toNat_natCast] at e
 exact ⟨j,hj,by omega,by omega⟩
theorem ya {l l':Nat} {z z':Nat→Int} (hs:AE l z l' z') (hc:bh l z=0) (h:cg l' z'=0):cg l z=0 :=
 AM (wR hs hc (vz h (fun _ _=>rfl)))
theorem IX {l l':Nat} {z z':Nat→Int} (hs:AE l z l' z') (hc:bh l z=0) (h:cg l' z'=0):ec l z≤ec l' z' :=
 JF (wR hs hc (vz h (fun _ _=>rfl)))
theorem HG {A B:List Int} (hl:A.length=B.length) (h:∀ j,j<A.length→aB A j=aB B j):A=B:=by
 refine List.ext_getElem hl (fun j h1 h2=>?_)
 have:=h j h1
 rw[gV _ _ h1,gV _ _ h2] at this
 exact this
theorem Ho {l l':Nat} {z z':Nat→Int} (hs:AE l z l' z') (hs':AE l' z' l z) (hc:bh l z=0) (hc':bh l' z'=0):(cg l z=0↔cg l' z'=0)∧(cg l z=0→ec l z=ec l' z'∧dM l z=dM l' z'):=by
 refine ⟨⟨fun h=>ya hs' hc' h,fun h=>ya hs hc h⟩,fun h=>?_⟩
 have h':=ya hs' hc' h
 have e:ec l z=ec l' z':=by
  have:=IX hs hc h'
  have:=IX hs' hc' h
  omega
 have c1:yg l' z' (ec l' z') (aB (dM l z))=0:=by rw[← e];exact wR hs' hc' (vz h (fun _ _=>rfl))
 have c2:yg l z (ec l z) (aB (dM l' z'))=0:=by rw[e];exact wR hs hc (vz h' (fun _ _=>rfl))
 refine ⟨e,HG (by rw[IW,IW,e]) (fun j hj=>?_)⟩
 rw[IW] at hj
 have:=so c1 j (by omega)
 have:=so c2 j hj
 omega
theorem Fo {l:Nat} {z z':Nat→Int} (u:Int) (hlo:∀ i,i<l→cq z' i=cq z i+u) (hhi:∀ i,i<l→bE z' i=bE z i+u) (hc:bh l z=0) (hc':bh l z'=0):(cg l z=0↔cg l z'=0)∧(cg l z=0→ec l z=ec l z'∧∀ j,j<ec l z→aB (dM l z') j=aB (dM l z) j+u):=by
 have w1:cg l z=0↔cg l z'=0:=by
  constructor
  · intro h
    refine BC hc' (fun i hi=>?_)
    have:=(jG l z h).2 i hi
    rw[hlo i hi,hhi i hi];omega
  · intro h
    refine BC hc (fun i hi=>?_)
    have:=(jG l z' h).2 i hi
    rw[hlo i hi,hhi i hi] at this;omega
 refine ⟨w1,fun h=>?_⟩
 have h':=w1.1 h
 -- the baths of the one, moved, do the other
 have go:∀ (a c:Nat→Int) (v:Int),bh l c=0→cg l a=0→cg l c=0→(∀ i,i<l→cq c i=cq a i+v)→(∀ i,i<l→bE c i=bE a i+v)→yg l c (ec l a) (fun j=>aB (dM l a) j+v)=0:=by
  intro a c v hcc ha hcw e1 e2
  have cb:=vz ha (fun _ _=>rfl)
  obtain ⟨_,k2,k3,k4⟩:=pd cb
  refine I3 hcc k2 (fun j hj=>?_) (fun j h0 hj=>by have:=k3 j h0 hj;omega) (fun i hi=>?_)
  · obtain ⟨_,hp2⟩:=pC ha
    have hm:=List.getElem_mem (show j<(dM l a).length by rw[IW];exact hj)
    rw[← gV] at hm
    have hm:aB (dM l a) j ∈ (tu a (rT l a)).map (·.1):=hm
    obtain ⟨p,hp,e⟩:=List.mem_map.1 hm
    obtain ⟨⟨o1,o2,_⟩,e3⟩:=hp2 p hp
    have hb:=(bM hcc).2 p.2.toNat (by omega)
    have e4:=e2 p.2.toNat (by omega)
    rw[← e,e3,← e4]
    unfold bE
    omega
  · obtain ⟨j,hj,e⟩:=k4 i hi
    rw[gZ,Int.toNat_natCast] at e
    have:=e1 i hi
    have:=e2 i hi
    exact ⟨j,hj,by omega,by omega⟩
 have c1:=go z z' u hc' h h' hlo hhi
 have c2:=go z' z (-u) hc h' h (fun i hi=>by have:=hlo i hi;omega) (fun i hi=>by have:=hhi i hi;omega)
 have e:ec l z=ec l z':=by
  have:=JF c1
  have:=JF c2
  omega
 refine ⟨e,fun j hj=>?_⟩
 rw[e] at c1
 rw[← e] at c2
 have:=so c1 j (by omega)
 have:=so c2 j hj
 omega
end Go.Eng
end
section
namespace Go.Eng
open Go.Proofs
noncomputable def iO (s l:Nat) (y:Nat→Int):AV:=.ptrT (some s) (.G [aG 7 l y]) 0
theorem Q6 (n s:Nat) (l:Nat) (y m:Nat→Int) (H:aa) (q:Int):bu Tryz.prog (cd (n+1)) 100000 56 Tryz.f56 (KtB.kt 56) (il aR n 1) (eP aW 0 (yD l y q 0) (zn (fK (fun x=>Int.ofNat 0) 0 (fun x=>Int.ofNat 0) 14)::H) (.ok (.normal,hints (yD l y q (Int.ofNat l)++[(15,.bool false)]),zn m::H))) aX [(iO s l y,none),(.int .i64 q,none)] H =
 (fun (Z0:bm)=>((fun (Z1:ay)=>Tr.req (bx 0 14) (Tr.req (cM 0 0) (Tr.req (la 0 14 0 14) (Tr.reqP (Z1=Z1∧Z0::H=Z0::H) (Tr.req (la 0 14 0 14) (Tr.ok ((AV.agg (Row.M [aL.arr .i64 (fK (fun x=>Int.ofNat 0) 0 m 14) 14]),none),H))))))) [(1,AV.int .i64 q),(4,AV.ptr 0 0 0 0),(5,AV.ptr 0 1 0 0),(12,aG 7 l y),(13,AV.int .i64 (Int.ofNat l)),(14,AV.int .i64 (Int.ofNat 0))])) { lock:=false,bs:=[(0,ak.row (Row.M [aL.arr .i64 (fun x=>Int.ofNat 0) 14])),(0,ak.row (Row.M [aL.arr .i64 (fK (fun x=>Int.ofNat 0) 0 (fun x=>Int.ofNat 0) 14) 14]))] }:=by kernel_rfl
theorem NU (n s:Nat) (l:Nat) (y:Nat→Int) (H:aa):bu Tryz.prog (cd (n+3)) 100000 64 Tryz.f64 (KtB.kt 64) (il aR (n+1) 2) (eP aW 0 (mK .nils l y 0) (aC::H) (.ok (.normal,hints (mK .nils l y (Int.ofNat l)++[(12,.bool false)]),aC::H))) aX [(iO s l y,none)] H =
 (fun (Z0:ay)=>Tr.reqP (Z0=Z0∧aC::H=aC::H) (Tr.ok ((AV.nils,none),H))) [(3,AV.nils),(9,aG 7 l y),(10,AV.int .i64 (Int.ofNat l)),(11,AV.int .i64 (Int.ofNat 0))]:=by kernel_rfl
theorem NV (n s:Nat) (l:Nat) (y g:Nat→Int) (H:aa) (v k:Nat):bu Tryz.prog (cd (n+3)) 100000 64 Tryz.f64 (KtB.kt 64) (il aR (n+1) 2) (eP aW 0 (mK .nils l y 0) (aC::H) (.ok (.normal,hints (mK (.slc 0 0 v 0 1 k none) l y (Int.ofNat l)++[(12,.bool false)]),⟨false,[(v,.row (.M [.arr .i64 g k]))]⟩::H))) aX [(iO s l y,none)] H =
 (fun (Z0:ay)=>Tr.reqP (Z0=Z0∧aC::H=aC::H) (Tr.req (cM v v) (Tr.req (la 0 k 0 k) (Tr.ok ((AV.slcT none (Row.M [aL.arr .i64 (fE g 0) k]) 1 k false,none),H))))) [(3,AV.nils),(9,aG 7 l y),(10,AV.int .i64 (Int.ofNat l)),(11,AV.int .i64 (Int.ofNat 0))]:=by kernel_rfl
section
variable (n s l:Nat) (z:Nat→Int) (H:aa) (q:Int)
theorem OA (h:bh l z=0):cd (n+2) (.fn 56) [iO s l (oY z l),.int .i64 q] H=some (.agg (.M [.arr .i64 (jI z q l) 14]),H):=by
 refine ba (n:=n+1) Tryz.func56 rfl rfl rfl (Q6 n s l (oY z l) (jI z q l) H q) (dO n 1) (bz (af _ _) RV (fun x hx=>by rw[← Tr.ab hx];simp only[gi.st,aP];exact TY n l z H q h)) (ag _ _) ?_
 have hm:fK (fun x=>Int.ofNat 0) 0 (jI z q l) 14=jI z q l:=by
  obtain ⟨hl,_⟩:=bM h
  rw[jR];funext i;unfold qk jI
  by_cases hi:i<14
  · simp[hi]
  · simp[hi,show ¬ i<l by omega]
 rw[hm]
 exact wF
theorem Ly (h:bh l z=0):cd (n+4) (.fn 64) [iO s l (oY z l)] H=some (dA (dl (gK z) l),H):=by
 have hx:=RP n l z H h
 cases e:dl (gK z) l with
 | nil =>
   rw[e] at hx
   refine ba (n:=n+3) Tryz.func64 rfl rfl rfl (NU n s l (oY z l) H) (dO (n+1) 2) (bz (af _ _) N8 (fun x h=>by rw[← Tr.ab h];simp only[gi.st,aP];exact hx)) (ag _ _) ?_
   exact wF
 | cons a r =>
   rw[e] at hx
   refine ba (n:=n+3) Tryz.func64 rfl rfl rfl (NV n s l (oY z l) (aB (a::r)) H r.length (r.length+1)) (dO (n+1) 2) (bz (af _ _) N8 (fun x h=>by rw[← Tr.ab h];simp only[gi.st,aP];exact hx)) (ag _ _) ?_
   rw[c9]
   exact wF
end
end Go.Eng
end
