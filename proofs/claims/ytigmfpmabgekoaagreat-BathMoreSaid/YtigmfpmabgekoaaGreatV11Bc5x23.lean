/- Bath: Best of the program; lists of births that are equal. -/
import Derived.Test.YtigmfpmabgekoaaGreatV11Bb4x7
import Derived.Test.YtigmfpmabgekoaaGreatV11Ba3x9
import Derived.Test.YtigmfpmabgekoaaGreatV11EngPostx9
set_option linter.unusedVariables false
set_option linter.unusedSimpArgs false
set_option maxRecDepth 100000
section
namespace Go.Eng
open Go.Proofs
theorem GH {l m k':Nat} {k:Nat} {t:mb} {y g b a:Nat→Int} (ht:t.Ok (cd k)) (h:∀ H,cd k (.fn 63) [.ptrT (some 0) (.G [aJ 7 l y]) 0,cI m g false] H=some (.tup [cI k' b false,cI k' a false],H)):(lg t 63 (N6 l m k' y g b a)).Ok (cd k):=by
 refine fI ht (fun args p v hg hp H=>?_)
 unfold N6 at hg
 simp only[nP] at hg
 obtain ⟨rfl,rfl⟩:=hg
 rw[hp];exact h H
noncomputable def Np (B:List Int):Nat→Int:=fH (fun x=>Int.ofNat 0) 0 (an B) B.length
noncomputable def Ap (l:Nat) (z:Nat→Int):AV:=if cY l z=0 then .tup [cI (mE l z).length (Np (mE l z)) true,.int .i64 0] else .tup [.nils,.int .i64 (cY l z)]
section
variable (n l:Nat) (z:Nat→Int) (H:aa)
theorem Ip (h:cY l z=0):Ad l z=.tup [.ptrT (some 0) (.G [aJ 7 l (oY z l)]) 0,.int .i64 0]:=by unfold Ad;rw[if_pos h];rfl
theorem NP (h:cY l z=0):cd (n+5) (.fn 63) [uW l z,dA (dl (gE z) l)] H=some (.tup [dA (mE l z),dA (xN l z)],H):=by
 obtain ⟨h1,h2⟩:=iF l z h
 obtain ⟨hl,_⟩:=bM h1
 have e:=IT l z h
 have hN:(dl (uI z []) l).length=l:=wz (fun i _=>by unfold uI;rw[tx];rfl)
 have hm:∀ x ∈ dl (uI z []) l,uK l z x:=fun x hx=>by
  obtain ⟨i,rfl,h5,_⟩:=(p8 _ _ _).1 hx
  exact ⟨by omega,by omega,by rw[Int.toNat_natCast];exact h2 i h5⟩
 have:=Rm n l z H (by omega) (dl (uI z []) l) (an (dl (uI z []) l)) (by omega) (fun _ _=>rfl) hm
 rw[e]
 cases hL:dl (uI z []) l with
 | nil=>rw[hL] at hN;simp at hN;omega
 | cons a r=>rw[hL] at this;unfold mE xN uk;rw[hL];exact this
theorem GQ (h:cY l z=0):∃ a r,uk z (dl (uI z []) l)=a::r:=by
 obtain ⟨h1,h2⟩:=iF l z h
 obtain ⟨hl,_⟩:=bM h1
 have hN:(dl (uI z []) l).length=l:=wz (fun i _=>by unfold uI;rw[tx];rfl)
 unfold uk
 cases e:dl (uI z []) l with
 | nil=>rw[e] at hN;simp at hN;omega
 | cons a r=>exact ⟨_,_,rfl⟩
theorem D7 (z:Nat→Int):∀ (k:Nat) (L:List Int),(oU z k L).length≤k
 | 0,_=>Nat.zero_le _
 | k+1,[]=>Nat.zero_le _
 | k+1,a::r=>by
   show (oU z k _).length+1≤_
   have:=D7 z k (cA (pB z (bU z (dL z (an (a::r)) r.length).toNat)) (an (a::r)) (r.length+1))
   omega
theorem AB:(uk z (dl (uI z []) l)).length≤l:=by
 have h1:=D7 z (dl (uI z []) l).length (dl (uI z []) l)
 have h2:=sK (uI z []) l
 unfold uk;omega
theorem QU:cd (n+13) (.fn 23) [aJ 5 l z] H=some (Ap l z,H):=by
 have hc:∀ k H,cd (n+12+k) (.fn 62) [aJ 5 l z] H=some (Ad l z,H):=fun k H=>by rw[show n+12+k=n+k+12 by omega];exact Rl _ l z H
 unfold Ap
 by_cases h:cY l z=0
 · rw [if_pos h]
   rw[Ip l z h] at hc
   obtain ⟨h1,h2⟩:=iF l z h
   obtain ⟨hl,_⟩:=bM h1
   have h63:=fun k H=>NP (n+7+k) l z H h
   have hd:∀ k H,cd (n+12+k) (.fn 64) [.ptrT (some 0) (.G [aJ 7 l (oY z l)]) 0] H=some (dA (dl (gE z) l),H):=fun k H=>by rw[show n+12+k=n+8+k+4 by omega];exact QW _ l z H h1
   have hlen:=AB l z
   obtain ⟨p,q,e⟩:=GQ l z h
   have hN:(dl (gE z) l).length=l:=by rw[IT l z h];exact wz (fun i _=>by unfold uI;rw[tx];rfl)
   have eB:mE l z=p.1::q.map (·.1):=by unfold mE;rw[e];rfl
   have eA:xN l z=p.2::q.map (·.2):=by unfold xN;rw[e];rfl
   have lA:(q.map (·.2)).length=q.length:=by simp
   have lB:(q.map (·.1)).length=q.length:=by simp
   rw[e] at hlen
   simp only[List.length_cons] at hlen
   cases e2:dl (gE z) l with
   | nil=>rw[e2] at hN;simp at hN;omega
   | cons a r =>
     rw[e2] at hd h63 hN
     simp only[List.length_cons] at hN
     rw[eB,eA] at h63
     rw[eB]
     generalize hC:p.1::q.map (·.1)=B at *
     have hk:B.length=q.length+1:=by rw[← hC];simp
     have hdB:dA B=cI (q.length+1) (an B) false:=by rw[← hC];show AV.slcT none (.M [.arr .i64 _ ((q.map (·.1)).length+1)]) 1 ((q.map (·.1)).length+1) false=_;rw[lB]
     have hdA:dA (p.2::q.map (·.2))=cI (q.length+1) (an (p.2::q.map (·.2))) false:=by show AV.slcT none (.M [.arr .i64 _ ((q.map (·.2)).length+1)]) 1 ((q.map (·.2)).length+1) false=_;rw[lA]
     rw[hdB,hdA] at h63
     refine ba (n:=n+12) Tryz.func23 rfl rfl rfl (Ty (n+12) l (r.length+1) (q.length+1) z (oY z l) (an (a::r)) (an B) (an (p.2::q.map (·.2))) H) (cS _ (n+12) 0 (fun k=>GH (sJ (sJ (aT _) (hc k)) (hd k)) (fun H=>by rw[show n+12+k=n+7+k+5 by omega];exact h63 k H))) (ag _ _) (ah _ _) ?_
     have t1:dH (Int.ofNat (q.length+1))=q.length+1:=fP _
     have t2:wZ (q.length+1) (q.length+1)=q.length+1:=by rw[w6];omega
     rw[t1,t2,df]
     repeat' first | (refine Tr.al (fun hc=>?_) (fun hc=>?_)<;>(try simp (disch:=omega) only[nV,nW] at hc)<;>try omega) | (refine Tr.bf ?_ ?_;· (try simp (disch:=omega) only[nV,nW]);try omega) | (refine Tr.ay ?_ ?_;· first | exact trivial | rfl | exact ⟨rfl,rfl⟩ | exact ⟨rfl,rfl,rfl⟩ | (simp (disch:=omega) only[nV,nW];done) | ((try simp (disch:=omega) only[nV,nW]);omega)) | fail
     all_goals first
      | (refine Tr.aw ⟨?_,rfl⟩
         show AV.tup [.slcT none (.M [.arr .i64 _ (q.length+1)]) 1 (q.length+1) (bX (q.length+1) (q.length+1)),_]=_
         unfold Np
         rw[hk,CS];rfl)
      | fail
 · rw[if_neg h]
   have hv:Ad l z=.tup [.nilp,.int .i64 (cY l z)]:=by unfold Ad;rw[if_neg h]
   rw[hv] at hc
   refine ba (n:=n+12) Tryz.func23 rfl rfl rfl (Qe (n+12) l z H (cY l z)) (cS _ (n+12) 0 (fun k=>sJ (aT _) (hc k))) (ag _ _) (ah _ _) ?_
   exact wF
end
end Go.Eng
end
section
namespace Go.Eng
open Go.Proofs
end Go.Eng
end
section
namespace Go.Eng
open Go.Proofs
section
variable (n:Nat) (m:Nat) (g:Nat→Int) (H:aa) (j:Int) (hm:m≤1000)
include hm
end
section
variable (n l:Nat) (z:Nat→Int) (m:Nat) (g:Nat→Int) (H:aa) (j:Nat) (kb:Nat) (hb:Nat→Int) (hl:l≤14) (hm:1≤m∧m≤1000) (hg:∀ j,j<m→uK l z (g j)) (hj:j<l)
include hg in
end
end Go.Eng
end
section
namespace Go.Eng
open Go.Proofs
noncomputable def qO (l:Nat) (z:Nat→Int):List Int:=dl (uI z []) l
section
variable (n l:Nat) (z:Nat→Int) (H:aa)
theorem KO (j:Nat) (h:j<l):(j:Int) ∈ qO l z:=(p8 _ _ _).2 ⟨j,rfl,h,by unfold uI;rw[tx];rfl⟩
end
end Go.Eng
end
section
namespace Go.Eng
open Go.Proofs
end Go.Eng
end
section
namespace Go.Eng
open Go.Proofs
section
variable (z z':Nat→Int) (φ:Int→Int)
end
theorem Ea {l:Nat} {z:Nat→Int} (hl:1≤l∧l≤14) (h:∀ j,j<l→0≤z (j*5)∧z (j*5)≤z (j*5+1)∧z (j*5+1)≤10000∧0≤z (j*5+2)∧z (j*5+2)≤z (j*5+3)∧z (j*5+3)≤10000∧0≤z (j*5+4)∧z (j*5+4)≤100000):bp l z=0:=by
 unfold bp
 rw[if_neg (by omega)]
 cases he:iu (iQ z) l with
 | false=>rfl
 | true =>
   obtain ⟨j,hj,e⟩:=(eI _ _).1 he
   have h1:=h j hj
   have h2:iQ z j=false:=by simp[iQ];omega
   rw[h2] at e;cases e
end Go.Eng
end
section
namespace Go.Eng
open Go.Proofs
theorem Jc (g:Nat→Int):bF (an []) 0 g=g:=by
 rw[jF];funext i;simp
section
variable (n l:Nat) (z:Nat→Int) (H:aa)
noncomputable def mc (k:Nat) (f:Nat→Int):Nat:=(uk f (qO k f)).length
end
end Go.Eng
end
section
namespace Go.Eng
open Go.Proofs
theorem wx {j:Nat} (h:j<2 ^ 31):a8 .i64 (j:Int) (Int.ofNat 1)=((j+1:Nat):Int):=by rw[bV,show Int.ofNat 1=1 from rfl];exact cK (by omega) (by omega)
theorem GV (j:Nat):ar 0 (j:Int) 1=j:=by rw[bC];omega
def Fq (b:Nat→Int) (j:Nat):Bool:=decide (b j < -10000) || (decide (10000<b j) || (decide (0<j) && decide (b j≤b (j-1))))
def Gh (k:Nat) (b:Nat→Int):Int:=if 14<k then 6 else if iu (Fq b) k=true then 3 else 0
section
variable (n k:Nat) (b:Nat→Int) (full:Bool) (H:aa)
end
end Go.Eng
end
section
namespace Go.Eng
open Go.Proofs
end Go.Eng
end
section
namespace Go.Eng
open Go.Proofs
noncomputable def xW (l:Nat) (z:Nat→Int) (k:Nat) (b:Nat→Int):Int:=if bp l z≠0 then bp l z else if Gh k b≠0 then Gh k b else if iu (fun j=>!IB z b k j) l=true then 22 else 0
section
variable (n l k:Nat) (z b:Nat→Int) (full:Bool) (H:aa)
end
end Go.Eng
end
section
namespace Go.Eng
open Go.Proofs
section
variable (n l k:Nat) (z b:Nat→Int) (full:Bool) (H:aa)
end
end Go.Eng
end
section
namespace Go.Eng
open Go.Proofs
noncomputable def gX (A:List AV) (V:AV):List AV→Option (Prop×AV):=fun x=>some (x=A,V)
noncomputable def tX (t:mb) (f:FuncId) (A:List AV) (V:AV):mb:=lg t f (gX A V)
theorem dP {c f:Nat} {t:mb} {A:List AV} {V:AV} (ht:t.Ok (cd c)) (h:∀ H,cd c (.fn f) A H=some (V,H)):(tX t f A V).Ok (cd c):=by
 refine fI ht (fun args p v hg hp H=>?_)
 unfold gX at hg
 simp only[nP] at hg
 obtain ⟨rfl,rfl⟩:=hg
 rw[hp];exact h H
theorem NY {c:Nat} {t:mb} (h:0<c) (ht:t.Ok (cd c)):(lg t 15 Lp).Ok (cd c):=by
 obtain ⟨m,rfl⟩:∃ m,c=m+1:=⟨c-1,by omega⟩
 exact NZ ht
section
variable (n l k:Nat) (z b:Nat→Int) (full:Bool) (H:aa)
end
end Go.Eng
end
section
namespace Go.Eng
open Go.Proofs
end Go.Eng
end
section
namespace Go.Eng
open Go.Proofs
theorem G7 (A:List Int):((List.range A.length).map fun q=>an A (0+q))=A:=by
 apply List.ext_getElem (by simp)
 intro i h1 h2
 simp only[List.getElem_map,List.getElem_range,Nat.zero_add,qu,List.getD_eq_getElem?_getD,List.getElem?_eq_getElem h2,Option.getD_some]
theorem Kl (A:List Int):DR gV (an A) 0 A.length=an (gV A):=by
 funext x
 have hl:(gV A).length=A.length:=List.length_mergeSort A
 unfold DR
 rw[G7,qu,qu]
 by_cases h:x<A.length
 · rw[if_pos (by omega),Nat.sub_zero]
 · rw[if_neg (by omega),List.getD_eq_getElem?_getD,List.getD_eq_getElem?_getD,List.getElem?_eq_none (by omega),List.getElem?_eq_none (by omega)]
theorem Cu (L:List Int):(gV L).length=L.length:=List.length_mergeSort L
end Go.Eng
end
section
namespace Go.Eng
open Go.Proofs
def J9 (l:Nat) (b:Nat→Int) (j:Nat):Bool:=!(decide (0≤b j) && decide (b j<l)) || (decide (0<j) && decide (b j≤b (j-1)))
def Pk (z b:Nat→Int) (j:Nat):Bool:=decide (bU z (b j).toNat<cQ z (b j).toNat)
def Pj (z:Nat→Int) (x y:Int):Bool:=decide (max (cQ z x.toNat) (cQ z y.toNat)≤min (bU z x.toNat) (bU z y.toNat))
def Ph (z b:Nat→Int) (i:Nat):Bool:=iu (fun j=>Pj z (b i) (b j)) i
def KD (l:Nat) (z:Nat→Int) (k:Nat) (b:Nat→Int):Int:=if bp l z≠0 then bp l z else if iu (J9 l b) k=true then 3 else if iu (Pk z b) k=true then 22 else if iu (Ph z b) k=true then 14 else 0
section
variable (n l k:Nat) (z b:Nat→Int) (H:aa)
end
end Go.Eng
end
section
namespace Go.Eng
open Go.Proofs
theorem EY (z g:Nat→Int):∀ (k j:Nat),j≤k→bU z (dL z g k).toNat≤bU z (g j).toNat
 | 0,j,h=>by
   have:j=0:=by omega
   subst this;exact Int.le_refl _
 | k + 1,j,h=>by
   have e:dL z g (k+1)=if bU z (g (k+1)).toNat<bU z (dL z g k).toNat then g (k+1) else dL z g k:=rfl
   rw[e]
   by_cases hj:j=k+1
   · subst hj;split
     · exact Int.le_refl _
     · omega
   · have:=EY z g k j (by omega)
     split
     · omega
     · exact this
theorem wW {L:List Int} {x:Int} (h:x ∈ L):∃ j,j<L.length∧an L j=x:=by
 obtain ⟨j,hj,rfl⟩:=List.getElem_of_mem h
 exact ⟨j,hj,by rw[qu,List.getD_eq_getElem?_getD,List.getElem?_eq_getElem hj];rfl⟩
theorem gw (z:Nat→Int) (b x:Int):pB z b x=true↔cQ z x.toNat≤b∧b≤bU z x.toNat:=by
 unfold pB wA;rw[Bool.and_eq_true,decide_eq_true_eq,decide_eq_true_eq]
theorem wi (l:Nat) (z:Nat→Int):∀ (k:Nat) (L:List Int),L.length≤k→(∀ x ∈ L,uK l z x) →
 (∀ x ∈ L,∃ p ∈ oU z k L,pB z p.1 x=true)∧(∀ p ∈ oU z k L,p.2 ∈ L∧p.1=bU z p.2.toNat)∧(oU z k L).Pairwise (fun p q=>p.1<cQ z q.2.toNat)
 | 0,L,h,_=>by
   have:L=[]:=List.eq_nil_of_length_eq_zero (by omega)
   subst this;exact ⟨(fun x h=>by cases h),(fun p h=>by simp[oU] at h),(by simp[oU])⟩
 | k+1,[],_,_=>⟨(fun x h=>by cases h),(fun p h=>by simp[oU] at h),(by simp[oU])⟩
 | k + 1,a::r,h,hok=>by
   have e:oU z (k+1) (a::r)=(bU z (dL z (an (a::r)) r.length).toNat,dL z (an (a::r)) r.length)::oU z k (cA (pB z (bU z (dL z (an (a::r)) r.length).toNat)) (an (a::r)) (r.length+1)):=rfl
   rw[e]
   have hmin:=EY z (an (a::r)) r.length
   obtain ⟨i0,hi1,hi2⟩:=wV z (an (a::r)) r.length
   have hin:dL z (an (a::r)) r.length ∈ a::r:=by rw[hi2];exact np (a::r) i0 (by simp;omega)
   have hok0:=hok _ hin
   generalize hn:dL z (an (a::r)) r.length=n at *
   have hm:=ET (pB z (bU z n.toNat)) (an (a::r)) (r.length+1)
   have hsub:∀ x ∈ cA (pB z (bU z n.toNat)) (an (a::r)) (r.length+1),x ∈ a::r∧pB z (bU z n.toNat) x=false:=fun x hx=>by
    obtain ⟨j,h1,h2,h3⟩:=(hm x).1 hx
    exact ⟨by rw[← h2];exact np (a::r) j (by simpa using h1),h3⟩
   have hlt:(cA (pB z (bU z n.toNat)) (an (a::r)) (r.length+1)).length<r.length+1:=IJ _ _ _ i0 (by omega) (by rw[← hi2];exact (gw _ _ _).2 ⟨hok0.2.2,Int.le_refl _⟩)
   obtain ⟨s1,s2,s3⟩:=wi l z k (cA (pB z (bU z n.toNat)) (an (a::r)) (r.length+1)) (by simp at h;omega) (fun x hx=>hok x (hsub x hx).1)
   refine ⟨fun x hx=>?_,fun p hp=>?_,List.Pairwise.cons (fun q hq=>?_) s3⟩
   · cases hb:pB z (bU z n.toNat) x with
     | true=>exact ⟨_,List.mem_cons_self,hb⟩
     | false =>
       obtain ⟨j,hj,hx2⟩:=wW hx
       obtain ⟨p,hp,h2⟩:=s1 x ((hm x).2 ⟨j,by simpa using hj,hx2,hb⟩)
       exact ⟨p,List.mem_cons_of_mem _ hp,h2⟩
   · rcases List.mem_cons.1 hp with rfl | hp
     · exact ⟨hin,rfl⟩
     · obtain ⟨h1,h2⟩:=s2 p hp
       exact ⟨(hsub _ h1).1,h2⟩
   · obtain ⟨h1,_⟩:=s2 q hq
     obtain ⟨h3,h4⟩:=hsub _ h1
     obtain ⟨j,hj,hx2⟩:=wW h3
     have h5:=hmin j (by simp at hj;omega)
     rw[hx2] at h5
     show bU z n.toNat < _
     apply Int.not_le.1
     intro hc
     have:=(gw z (bU z n.toNat) q.2).2 ⟨hc,h5⟩
     rw[h4] at this;cases this
def rG (z:Nat→Int) (a c:Int):Prop:=∀ b,¬ (pB z b a=true∧pB z b c=true)
theorem qD (z:Nat→Int):∀ (A B:List Int),(∀ a ∈ A,∃ b ∈ B,pB z b a=true)→A.Pairwise (rG z)→A.length≤B.length
 | [],B,_,_=>Nat.zero_le _
 | a::A,B,h,hd=>by
   obtain ⟨b,hb,h1⟩:=h a List.mem_cons_self
   rw[List.pairwise_cons] at hd
   have ih:=qD z A (B.erase b) (fun a' ha'=>by
    obtain ⟨b',hb',h2⟩:=h a' (List.mem_cons_of_mem _ ha')
    exact ⟨b',(List.mem_erase_of_ne (fun e=>by subst e;exact hd.1 a' ha' _ ⟨h1,h2⟩)).2 hb',h2⟩) hd.2
   have:=List.length_erase_of_mem hb
   have hp:0<B.length:=List.length_pos_of_mem hb
   simp only[List.length_cons]
   omega
theorem rU (l:Nat) (z:Nat→Int) (L:List Int) (hok:∀ x ∈ L,uK l z x) :
 (∀ x ∈ L,∃ b ∈ (uk z L).map (·.1),pB z b x=true)∧(∀ a ∈ (uk z L).map (·.2),a ∈ L)∧((uk z L).map (·.2)).Pairwise (rG z):=by
 obtain ⟨h1,h2,h3⟩:=wi l z L.length L (Nat.le_refl _) hok
 refine ⟨fun x hx=>?_,fun a ha=>?_,?_⟩
 · obtain ⟨p,hp,h⟩:=h1 x hx
   exact ⟨p.1,List.mem_map_of_mem hp,h⟩
 · obtain ⟨p,hp,rfl⟩:=List.mem_map.1 ha
   exact (h2 p hp).1
 · rw[List.pairwise_map]
   refine List.Pairwise.imp_of_mem (fun {p q} hp hq hpq b hb=>?_) h3
   obtain ⟨e1,e2⟩:=hb
   rw[gw] at e1 e2
   have:=(h2 p hp).2
   omega
end Go.Eng
end
section
namespace Go.Eng
open Go.Proofs
theorem TA (n l p:Nat) (z x:Nat→Int) (H:aa):bw Tryz.prog (cd n) 100000 46 Tryz.f46 (KtB.kt 46) (il (tX aU 23 [aJ 5 l z] (.tup [cI p x true,.int .i64 0])) n 0) aZ a6 [(aJ 5 l z,none)] H =
 Tr.reqP ([aJ 5 l z]=[aJ 5 l z]) (Tr.ite (dm (Int.ofNat 0) (Int.ofNat 22)) (Tr.ok ((AV.tup [AV.int .i64 (Int.ofNat 100),AV.bool (dm (Int.ofNat p) (Int.ofNat 0))],none),H)) (Tr.ok ((AV.tup [AV.int .i64 (Int.ofNat p),AV.bool (dm (Int.ofNat 0) (Int.ofNat 0))],none),H))):=by kernel_rfl
theorem Qi (n l:Nat) (z:Nat→Int) (H:aa) (e:Int):bw Tryz.prog (cd n) 100000 46 Tryz.f46 (KtB.kt 46) (il (tX aU 23 [aJ 5 l z] (.tup [.nils,.int .i64 e])) n 0) aZ a6 [(aJ 5 l z,none)] H =
 Tr.reqP ([aJ 5 l z]=[aJ 5 l z]) (Tr.ite (dm e (Int.ofNat 22)) (Tr.ok ((AV.tup [AV.int .i64 (Int.ofNat 100),AV.bool true],none),H)) (Tr.ok ((AV.tup [AV.int .i64 (Int.ofNat 0),AV.bool (dm e (Int.ofNat 0))],none),H))):=by kernel_rfl
end Go.Eng
end
section
namespace Go.Eng
open Go.Proofs
def KI (z:Nat→Int):Nat→Bool
 | 0=>true
 | j+1=>KI z j && decide (cQ z j≤bU z j)
theorem xC (z:Nat→Int) (j:Nat):KI z j=true↔∀ i,i<j→cQ z i≤bU z i:=by
 induction j with
 | zero=>simp[KI]
 | succ j ih =>
   unfold KI
   rw[Bool.and_eq_true,ih,decide_eq_true_eq]
   constructor
   · rintro ⟨h1,h2⟩ i hi
     by_cases e:i<j
     · exact h1 i e
     · have:i=j:=by omega
       subst this;exact h2
   · intro h
     exact ⟨fun i hi=>h i (by omega),h j (by omega)⟩
theorem Cs (l:Nat) (z:Nat→Int) (h:bp l z=0):cY l z=if KI z l=true then 0 else 22:=by
 rw[F9,if_neg (fun x=>x h)]
 cases e:iu (Gj z) l with
 | false=>rw[if_neg (by decide),if_pos ((xC z l).2 ((xg l z).1 e))]
 | true =>
   rw[if_pos rfl,if_neg]
   intro hs
   have:=(xg l z).2 ((xC z l).1 hs)
   rw[e] at this;cases this
section
variable (n l p:Nat) (z x:Nat→Int) (H:aa) (w:Int)
end
end Go.Eng
end
section
namespace Go.Eng
open Go.Proofs
theorem GC {l:Nat} {z:Nat→Int} (h:cY l z=0):Ap l z=.tup [cI (mc l z) (Np (mE l z)) true,.int .i64 0]:=by
 unfold Ap mc;rw[if_pos h]
 have:(mE l z).length=(uk z (qO l z)).length:=by unfold mE qO;simp
 rw[this]
theorem Ga {l:Nat} {z:Nat→Int} (h:bp l z=0) (h2:∀ i,i<l→cQ z i≤bU z i):cY l z=0:=by
 rw[Cs l z h,if_pos ((xC z l).2 h2)]
section
variable (n l:Nat) (z:Nat→Int) (H:aa) (w:Int)
theorem Rj (h:cY l z=0):cd (n+14) (.fn 46) [aJ 5 l z] H=some (.tup [.int .i64 (mc l z:Nat),.bool true],H):=by
 have h23:∀ H,cd (n+13) (.fn 23) [aJ 5 l z] H=some (Ap l z,H):=fun H=>QU n l z H
 rw[GC h] at h23
 refine ba (n:=n+13) Tryz.func46 rfl rfl rfl (TA (n+13) l (mc l z) z (Np (mE l z)) H) (dC _ _ (dP (aT _) h23)) (ag _ _) (ah _ _) ?_
 have e2:dm (Int.ofNat 0) (Int.ofNat 0)=true:=by rw[cg];rfl
 rw[e2]
 exact wF
end
end Go.Eng
end
section
namespace Go.Eng
open Go.Proofs
theorem mw {p:Nat→Bool} {k:Nat} (h:∀ j,j<k→p j=false):iu p k=false:=by
 cases e:iu p k with
 | false=>rfl
 | true =>
   obtain ⟨j,hj,e2⟩:=(eI _ _).1 e
   rw[h j hj] at e2;cases e2
theorem jJ {p:Nat→Bool} {k:Nat} (h:¬ iu p k=true):∀ j,j<k→p j=false:=fun j hj=>by
 cases e:p j with
 | false=>rfl
 | true=>exact absurd ((eI _ _).2 ⟨j,hj,e⟩) h
theorem C3 {z:Nat→Int} {a c:Int} (h:rG z a c):rG z c a:=fun b hb=>h b ⟨hb.2,hb.1⟩
theorem me {l:Nat} {z:Nat→Int} (h:cY l z=0):∀ x ∈ qO l z,uK l z x:=fun x hx=>by
 obtain ⟨h1,h2⟩:=iF l z h
 obtain ⟨i,rfl,h5,_⟩:=(p8 _ _ _).1 hx
 exact ⟨by omega,by omega,by rw[Int.toNat_natCast];exact h2 i h5⟩
theorem zW (L:List Int):(gV L).Perm L:=List.mergeSort_perm L _
theorem FY (L:List Int):(gV L).Pairwise (·≤·):=by
 have:=List.pairwise_mergeSort (le:=fun x y:Int=>decide (x≤y)) (fun a b c h1 h2=>by simp only[decide_eq_true_eq] at *;omega) (fun a b=>by simp only[Bool.or_eq_true,decide_eq_true_eq];omega) L
 exact this.imp (fun h=>by simpa using h)
structure QG (l:Nat) (z:Nat→Int) (S:List Int):Prop where
 ok:∀ a ∈ S,uK l z a
 dj:S.Pairwise (rG z)
 lt:S.Pairwise (· < ·)
theorem Ib {l:Nat} {z:Nat→Int} (h:cY l z=0):QG l z (gV (xN l z)):=by
 obtain ⟨_,a2,a3⟩:=rU l z (qO l z) (me h)
 have a2:∀ a ∈ xN l z,a ∈ qO l z:=a2
 have a3:(xN l z).Pairwise (rG z):=a3
 have hp:=zW (xN l z)
 have ok:∀ a ∈ gV (xN l z),uK l z a:=fun a ha=>me h a (a2 a (hp.mem_iff.1 ha))
 have dj:(gV (xN l z)).Pairwise (rG z):=(hp.pairwise_iff (fun {a b}=>C3)).2 a3
 refine ⟨ok,dj,?_⟩
 refine (List.Pairwise.and dj (FY (xN l z))).imp_of_mem (fun {a b} ha hb hab=>?_)
 obtain ⟨h1,h2⟩:=hab
 apply Int.not_le.1
 intro hc
 have:a=b:=by omega
 subst this
 have:=(ok a ha).2.2
 exact h1 (bU z a.toNat) ⟨(gw _ _ _).2 ⟨this,Int.le_refl _⟩,(gw _ _ _).2 ⟨this,Int.le_refl _⟩⟩
theorem iB (S:List Int) (j:Nat) (hj:j<S.length):an S j=S[j]:=by
 rw[qu,List.getD_eq_getElem?_getD,List.getElem?_eq_getElem hj];rfl
theorem Jd {l:Nat} {z:Nat→Int} {S:List Int} (h:bp l z=0) (a:QG l z S):KD l z S.length (an S)=0:=by
 have hlt:∀ i j,(hi:i<S.length)→(hj:j<S.length)→i<j→S[i]<S[j]:=List.pairwise_iff_getElem.1 a.lt
 have hdj:∀ i j,(hi:i<S.length)→(hj:j<S.length)→i<j→rG z S[i] S[j]:=List.pairwise_iff_getElem.1 a.dj
 have hok:∀ j,(hj:j<S.length)→uK l z S[j]:=fun j hj=>a.ok _ (List.getElem_mem hj)
 unfold KD
 rw[if_neg (fun x=>x h),if_neg,if_neg,if_neg]
 · rw[mw];· decide
   intro i hi
   unfold Ph
   refine mw (fun j hj=>?_)
   rw[iB S i hi,iB S j (by omega)]
   unfold Pj
   refine decide_eq_false (fun hc=>?_)
   refine hdj j i (by omega) hi hj (max (cQ z (S[i]).toNat) (cQ z (S[j]).toNat)) ⟨(gw _ _ _).2 ⟨?_,?_⟩,(gw _ _ _).2 ⟨?_,?_⟩⟩<;>omega
 · rw[mw];· decide
   intro j hj
   unfold Pk
   rw[iB S j hj]
   have:=(hok j hj).2.2
   exact decide_eq_false (by omega)
 · rw[mw];· decide
   intro j hj
   unfold J9
   rw[iB S j hj]
   obtain ⟨h1,h2,_⟩:=hok j hj
   rw[decide_eq_true h1,decide_eq_true h2]
   by_cases h0:0<j
   · rw[iB S (j-1) (by omega)]
     have:=hlt (j-1) j (by omega) hj (by omega)
     rw[decide_eq_false (show ¬ S[j]≤S[j-1] by omega)];simp
   · rw[decide_eq_false h0];rfl
theorem Jm {l:Nat} {z:Nat→Int} {k:Nat} {b:Nat→Int} (h:KD l z k b=0):bp l z=0∧(∀ j,j<k→uK l z (b j))∧((List.range k).map b).Pairwise (rG z):=by
 unfold KD at h
 split at h
 · exact absurd h (by assumption)
 rename_i h0
 split at h
 · cases h
 rename_i h1
 split at h
 · cases h
 rename_i h2
 split at h
 · cases h
 rename_i h3
 have h1:=jJ h1
 have h2:=jJ h2
 have h3:=jJ h3
 refine ⟨Decidable.byContradiction h0,fun j hj=>?_,?_⟩
 · have:=h1 j hj
   simp only[J9,Bool.or_eq_false_iff,Bool.not_eq_false',Bool.and_eq_true,decide_eq_true_eq] at this
   have h5:=h2 j hj
   unfold Pk at h5
   have:=of_decide_eq_false h5
   exact ⟨by omega,by omega,by omega⟩
 · rw[List.pairwise_map,List.pairwise_iff_getElem]
   intro i j hi hj hij q hq
   rw[List.getElem_range,List.getElem_range] at hq
   simp at hi hj
   have h5:=h3 j hj
   unfold Ph at h5
   have h6:=jJ (by rw[h5];decide) i hij
   unfold Pj at h6
   have:=of_decide_eq_false h6
   obtain ⟨q1,q2⟩:=hq
   rw[gw] at q1 q2
   omega
theorem rP {l:Nat} {z:Nat→Int} {k:Nat} {b:Nat→Int} (h:xW l z k b=0):bp l z=0∧k≤14∧(∀ j,0<j→j<k→b (j-1)<b j)∧∀ i,i<l→∃ j,j<k∧pB z (b j) (i:Int)=true:=by
 unfold xW at h
 split at h
 · exact absurd h (by assumption)
 rename_i h0
 split at h
 · rename_i h1;exact absurd h h1
 rename_i h1
 split at h
 · cases h
 rename_i h2
 have h1:Gh k b=0:=Decidable.byContradiction h1
 unfold Gh at h1
 split at h1
 · cases h1
 rename_i h3
 split at h1
 · cases h1
 rename_i h4
 have h4:=jJ h4
 have h2:=jJ h2
 refine ⟨Decidable.byContradiction h0,by omega,fun j hj hk=>?_,fun i hi=>?_⟩
 · have:=h4 j hk
   simp only[Fq,Bool.or_eq_false_iff,Bool.and_eq_false_iff,decide_eq_false_iff_not] at this
   omega
 · have:=h2 i hi
   simp only[Bool.not_eq_false'] at this
   unfold IB at this
   obtain ⟨j,hj,e⟩:=(eI _ _).1 this
   exact ⟨j,hj,by unfold pB;rw[Int.toNat_natCast];exact e⟩
theorem FI {k:Nat} {b:Nat→Int} {j:Nat} (h:j<k):b j ∈ (List.range k).map b:=List.mem_map.2 ⟨j,List.mem_range.2 h,rfl⟩
theorem Iy {l:Nat} {z:Nat→Int} {k:Nat} {b:Nat→Int} (h:xW l z k b=0) (A:List Int) (hA:∀ a ∈ A,uK l z a) (hd:A.Pairwise (rG z)):A.length≤k:=by
 obtain ⟨_,_,_,h4⟩:=rP h
 have:=qD z A ((List.range k).map b) (fun a ha=>by
  obtain ⟨o1,o2,_⟩:=hA a ha
  obtain ⟨j,hj,e⟩:=h4 a.toNat (by omega)
  exact ⟨b j,FI hj,by rw[Int.toNat_of_nonneg o1] at e;exact e⟩) hd
 simpa using this
theorem Au {l:Nat} {z:Nat→Int} {k:Nat} {b:Nat→Int} (h:xW l z k b=0):cY l z=0:=by
 obtain ⟨h1,_,_,h4⟩:=rP h
 refine Ga h1 (fun i hi=>?_)
 obtain ⟨j,hj,e⟩:=h4 i hi
 rw[gw,Int.toNat_natCast] at e
 omega
theorem QN (l:Nat) (z:Nat→Int):(xN l z).length=mc l z:=by unfold xN mc qO;rw[List.length_map]
theorem KN (l:Nat) (z:Nat→Int):(mE l z).length=mc l z:=by unfold mE mc qO;rw[List.length_map]
theorem KQ {l:Nat} {z:Nat→Int} (h:cY l z=0):KD l z (mc l z) (an (gV (xN l z)))=0:=by
 have:=Jd (iF l z h).1 (Ib h)
 rwa [Cu,QN] at this
end Go.Eng
end
section
namespace Go.Eng
open Go.Proofs
theorem s7 {l:Nat} {z:Nat→Int} (h:cY l z=0):(uk z (qO l z)).Pairwise (fun p q=>p.1<cQ z q.2.toNat)∧(∀ p ∈ uk z (qO l z),uK l z p.2∧p.1=bU z p.2.toNat):=by
 obtain ⟨h1,h2,h3⟩:=wi l z (qO l z).length (qO l z) (Nat.le_refl _) (me h)
 exact ⟨h3,fun p hp=>⟨me h _ (h2 p hp).1,(h2 p hp).2⟩⟩
theorem EF {l:Nat} {z:Nat→Int} (h:cY l z=0):(mE l z).Pairwise (· < ·):=by
 obtain ⟨h1,h2⟩:=s7 h
 show ((uk z (qO l z)).map (·.1)).Pairwise (· < ·)
 rw[List.pairwise_map]
 refine h1.imp_of_mem (fun {p q} hp hq hpq=>?_)
 obtain ⟨⟨_,_,o⟩,e⟩:=h2 q hq
 omega
theorem JG {l:Nat} {z:Nat→Int} (h:cY l z=0):∀ b ∈ mE l z,-10000≤b∧b≤10000:=fun b hb=>by
 obtain ⟨h1,h2⟩:=s7 h
 have hb:b ∈ (uk z (qO l z)).map (·.1):=hb
 obtain ⟨p,hp,rfl⟩:=List.mem_map.1 hb
 obtain ⟨⟨o1,o2,o⟩,e⟩:=h2 p hp
 obtain ⟨_,hz⟩:=bM (iF l z h).1
 have:=hz p.2.toNat (by omega)
 unfold bU at e
 omega
theorem xX {l:Nat} {z x:Nat→Int} (h:cY l z=0) (hx:∀ j,j<mc l z→x j=an (mE l z) j):xW l z (mc l z) x=0:=by
 have hB:=KN l z
 have hlt:∀ i j,(hi:i<(mE l z).length)→(hj:j<(mE l z).length)→i<j→(mE l z)[i]<(mE l z)[j]:=List.pairwise_iff_getElem.1 (EF h)
 obtain ⟨h1,h2⟩:=iF l z h
 obtain ⟨hl,_⟩:=bM h1
 have hP:mc l z≤l:=AB l z
 unfold xW
 rw[if_neg (fun q=>q h1)]
 have e:Gh (mc l z) x=0:=by
  unfold Gh
  rw[if_neg (by omega),if_neg]
  rw[mw];· decide
  intro j hj
  have r:=JG h _ (List.getElem_mem (show j<(mE l z).length by omega))
  have ej:x j=(mE l z)[j]'(by omega):=by rw[hx j hj,iB _ j (by omega)]
  unfold Fq
  rw[decide_eq_false (by omega),decide_eq_false (by omega)]
  by_cases h0:0<j
  · have:=hlt (j-1) j (by omega) (by omega) (by omega)
    have ej1:x (j-1)=(mE l z)[j-1]'(by omega):=by rw[hx (j-1) (by omega),iB _ (j-1) (by omega)]
    rw[decide_eq_false (show ¬ x j≤x (j-1) by omega)];simp
  · rw[decide_eq_false h0];rfl
 rw[if_neg (fun q=>q e),if_neg]
 rw[mw];· decide
 intro i hi
 obtain ⟨a1,_,_⟩:=rU l z (qO l z) (me h)
 obtain ⟨b,hb,hp⟩:=a1 i (KO l z i hi)
 have hb:b ∈ mE l z:=hb
 obtain ⟨j,hj,hb2⟩:=wW hb
 have:IB z x (mc l z) i=true:=by
  unfold IB
  refine (eI _ _).2 ⟨j,by omega,?_⟩
  rw[hx j (by omega),hb2]
  have e2:pB z b (i:Int)=wA z b i:=by unfold pB;rw[Int.toNat_natCast]
  rw[← e2];exact hp
 rw[this];rfl
theorem K3 {l:Nat} {z:Nat→Int} {k m:Nat} {b o:Nat→Int} (h:xW l z k b=0) (ha:KD l z m o=0):m≤k:=by
 obtain ⟨_,h2,h3⟩:=Jm ha
 have:=Iy h ((List.range m).map o) (fun a hm=>by
  obtain ⟨j,hj,rfl⟩:=List.mem_map.1 hm
  exact h2 j (List.mem_range.1 hj)) h3
 simpa using this
theorem NA {l:Nat} {z:Nat→Int} {k:Nat} {b:Nat→Int} (h:xW l z k b=0):mc l z≤k:=by
 have hw:=Au h
 have:=K3 h (KQ hw)
 exact this
theorem EO {k:Nat} {b:Nat→Int} (h:∀ j,0<j→j<k→b (j-1)<b j):∀ d i,i+d<k→b i≤b (i+d)
 | 0,i,_=>Int.le_refl _
 | d+1,i,hk=>by
   have:=EO h d i (by omega)
   have:=h (i+d+1) (by omega) (by omega)
   rw[show i+d+1-1=i+d by omega] at this
   show b i≤b (i+d+1)
   omega
theorem BX {l:Nat} {z:Nat→Int} {b:Nat→Int} (h:xW l z (mc l z) b=0):∀ i,i<mc l z→b i≤an (mE l z) i:=fun i hi=>by
 have hw:=Au h
 obtain ⟨_,_,hinc,hdo⟩:=rP h
 obtain ⟨hp1,hp2⟩:=s7 hw
 have hB:=KN l z
 apply Int.not_lt.1
 intro hc
 have hlen:(uk z (qO l z)).length=mc l z:=rfl
 have hlt:∀ i j,(hi:i<(mE l z).length)→(hj:j<(mE l z).length)→i<j→(mE l z)[i]<(mE l z)[j]:=List.pairwise_iff_getElem.1 (EF hw)
 have hgb:∀ j,(hj:j<mc l z)→((uk z (qO l z))[j]'(by omega)).1=an (mE l z) j:=fun j hj=>by
  rw[iB _ j (by omega)]
  show _=((uk z (qO l z)).map (·.1))[j]'(by simp;omega)
  rw[List.getElem_map]
 obtain ⟨_,_,a3⟩:=rU l z (qO l z) (me hw)
 have:=qD z (((uk z (qO l z)).map (·.2)).take (i+1)) ((List.range i).map b) (fun a ha=>by
  obtain ⟨j,hj,rfl⟩:=List.getElem_of_mem ha
  rw[List.getElem_take,List.getElem_map]
  simp at hj
  obtain ⟨⟨o1,o2,_⟩,e2⟩:=hp2 _ (List.getElem_mem (show j<(uk z (qO l z)).length by omega))
  have e1:=hgb j (by omega)
  generalize (uk z (qO l z))[j]=p at *
  obtain ⟨q,hq,e⟩:=hdo p.2.toNat (by omega)
  rw[Int.toNat_of_nonneg o1] at e
  refine ⟨b q,FI ?_,e⟩
  rw[gw] at e
  apply Nat.not_le.1
  intro hqi
  have h5:=EO hinc (q-i) i (by omega)
  rw[show i+(q-i)=q by omega] at h5
  have h6:an (mE l z) j≤an (mE l z) i:=by
   rw[iB _ j (by omega),iB _ i (by omega)]
   by_cases e:j=i
   · subst e;exact Int.le_refl _
   · exact Int.le_of_lt (hlt j i (by omega) (by omega) (by omega))
  omega) (List.Pairwise.sublist (List.take_sublist _ _) a3)
 simp at this
 omega
end Go.Eng
end
section
namespace Go.Eng
open Go.Proofs
def xP (l:Nat) (z:Nat→Int) (l':Nat) (z':Nat→Int):Prop:=∀ i,i<l→∃ i',i'<l'∧cQ z i≤cQ z' i'∧bU z' i'≤bU z i
theorem K4 {l:Nat} {z:Nat→Int} {k:Nat} {b:Nat→Int} (h:bp l z=0) (hk:k≤14) (hr:∀ j,j<k→-10000≤b j∧b j≤10000) (hi:∀ j,0<j→j<k→b (j-1)<b j) (hd:∀ i,i<l→∃ j,j<k∧cQ z i≤b j∧b j≤bU z i):xW l z k b=0:=by
 unfold xW
 rw[if_neg (fun q=>q h)]
 have e:Gh k b=0:=by
  unfold Gh
  rw[if_neg (by omega),if_neg]
  rw[mw];· decide
  intro j hj
  have:=hr j hj
  unfold Fq
  rw[decide_eq_false (by omega),decide_eq_false (by omega)]
  by_cases h0:0<j
  · have:=hi j h0 hj
    rw[decide_eq_false (show ¬ b j≤b (j-1) by omega)];simp
  · rw[decide_eq_false h0];rfl
 rw[if_neg (fun q=>q e),if_neg]
 rw[mw];· decide
 intro i hi
 obtain ⟨j,hj,h1,h2⟩:=hd i hi
 have:IB z b k i=true:=by
  unfold IB
  refine (eI _ _).2 ⟨j,hj,?_⟩
  have e2:pB z (b j) (i:Int)=wA z (b j) i:=by unfold pB;rw[Int.toNat_natCast]
  rw[← e2,gw,Int.toNat_natCast]
  exact ⟨h1,h2⟩
 rw[this];rfl
theorem K5 {l:Nat} {z:Nat→Int} {k:Nat} {b:Nat→Int} (h:xW l z k b=0):∀ j,j<k→-10000≤b j∧b j≤10000:=by
 unfold xW at h
 split at h
 · exact absurd h (by assumption)
 split at h
 · rename_i h1;exact absurd h h1
 rename_i h1
 have h1:Gh k b=0:=Decidable.byContradiction h1
 unfold Gh at h1
 split at h1
 · cases h1
 split at h1
 · cases h1
 rename_i h4
 have h4:=jJ h4
 intro j hj
 have:=h4 j hj
 simp only[Fq,Bool.or_eq_false_iff,Bool.and_eq_false_iff,decide_eq_false_iff_not] at this
 omega
theorem wm {l l':Nat} {z z':Nat→Int} (hs:xP l z l' z') (hc:bp l z=0) {k:Nat} {b:Nat→Int} (h:xW l' z' k b=0):xW l z k b=0:=by
 obtain ⟨_,h2,h3,h4⟩:=rP h
 refine K4 hc h2 (K5 h) h3 (fun i hi=>?_)
 obtain ⟨i',a,b',c⟩:=hs i hi
 obtain ⟨j,hj,e⟩:=h4 i' a
 rw[gw,Int.toNat_natCast] at e
 exact ⟨j,hj,by omega,by omega⟩
theorem sh {l l':Nat} {z z':Nat→Int} (hs:xP l z l' z') (hc:bp l z=0) (h:cY l' z'=0):cY l z=0 :=
 Au (wm hs hc (xX h (fun _ _=>rfl)))
theorem Bn {l l':Nat} {z z':Nat→Int} (hs:xP l z l' z') (hc:bp l z=0) (h:cY l' z'=0):mc l z≤mc l' z' :=
 NA (wm hs hc (xX h (fun _ _=>rfl)))
theorem G5 {A B:List Int} (hl:A.length=B.length) (h:∀ j,j<A.length→an A j=an B j):A=B:=by
 refine List.ext_getElem hl (fun j h1 h2=>?_)
 have:=h j h1
 rw[iB _ _ h1,iB _ _ h2] at this
 exact this
theorem GR {l l':Nat} {z z':Nat→Int} (hs:xP l z l' z') (hs':xP l' z' l z) (hc:bp l z=0) (hc':bp l' z'=0):(cY l z=0↔cY l' z'=0)∧(cY l z=0→mc l z=mc l' z'∧mE l z=mE l' z'):=by
 refine ⟨⟨fun h=>sh hs' hc' h,fun h=>sh hs hc h⟩,fun h=>?_⟩
 have h':=sh hs' hc' h
 have e:mc l z=mc l' z':=by
  have:=Bn hs hc h'
  have:=Bn hs' hc' h
  omega
 have c1:xW l' z' (mc l' z') (an (mE l z))=0:=by rw[← e];exact wm hs' hc' (xX h (fun _ _=>rfl))
 have c2:xW l z (mc l z) (an (mE l' z'))=0:=by rw[e];exact wm hs hc (xX h' (fun _ _=>rfl))
 refine ⟨e,G5 (by rw[KN,KN,e]) (fun j hj=>?_)⟩
 rw[KN] at hj
 have:=BX c1 j (by omega)
 have:=BX c2 j hj
 omega
theorem I5 {l:Nat} {z:Nat→Int} (h:cY l z=0) (h':cY (l+1) z=0):mc l z≤mc (l+1) z∧mc (l+1) z≤mc l z+1:=by
 obtain ⟨hc,_⟩:=iF l z h
 refine ⟨Bn (fun i hi=>⟨i,by omega,Int.le_refl _,Int.le_refl _⟩) hc h',?_⟩
 obtain ⟨_,a2,a3⟩:=rU (l+1) z (qO (l+1) z) (me h')
 have a2:∀ a ∈ xN (l+1) z,a ∈ qO (l+1) z:=a2
 have a3:(xN (l+1) z).Pairwise (rG z):=a3
 have hok:∀ a ∈ xN (l+1) z,uK (l+1) z a:=fun a ha=>me h' a (a2 a ha)
 have hlen:=QN (l+1) z
 generalize hA:xN (l+1) z=A at *
 -- without the last order
 have k1:∀ A:List Int,(∀ a ∈ A,uK (l+1) z a)→A.Pairwise (rG z)→A.length≤(A.filter fun a=>decide (a≠(l:Int))).length+1:=by
  intro A
  induction A with
  | nil=>intro _ _;simp
  | cons a A ih =>
    intro ok dj
    rw[List.pairwise_cons] at dj
    by_cases e:a=(l:Int)
    · have:A.filter (fun a=>decide (a≠(l:Int)))=A:=List.filter_eq_self.2 (fun b hb=>by
       refine decide_eq_true ?_
       intro e2
       have o:=(ok a List.mem_cons_self).2.2
       refine dj.1 b hb (cQ z a.toNat) ⟨(gw _ _ _).2 ⟨Int.le_refl _,o⟩,?_⟩
       rw[e2,← e]
       exact (gw _ _ _).2 ⟨Int.le_refl _,o⟩)
      rw[List.filter_cons,if_neg (by simp[e]),this,List.length_cons]
      omega
    · have:=ih (fun b hb=>ok b (List.mem_cons_of_mem _ hb)) dj.2
      rw[List.filter_cons,if_pos (by simpa using e),List.length_cons,List.length_cons]
      omega
 have k2:=k1 A hok a3
 have k3:=Iy (xX h (fun _ _=>rfl)) (A.filter fun a=>decide (a≠(l:Int))) (fun a ha=>by
  obtain ⟨m1,m2⟩:=List.mem_filter.1 ha
  obtain ⟨o1,o2,o3⟩:=hok a m1
  have:a≠(l:Int):=of_decide_eq_true m2
  exact ⟨o1,by omega,o3⟩) (List.Pairwise.filter _ a3)
 omega
end Go.Eng
end
section
namespace Go.Eng
open Go.Proofs
noncomputable def iJ (s l:Nat) (y:Nat→Int):AV:=.ptrT (some s) (.G [aJ 7 l y]) 0
theorem Qk (n s:Nat) (l:Nat) (y m:Nat→Int) (H:aa) (q:Int):bw Tryz.prog (cd (n+1)) 100000 56 Tryz.f56 (KtB.kt 56) (il aU n 1) (gf aZ 0 (yk l y q 0) (yY (fH (fun x=>Int.ofNat 0) 0 (fun x=>Int.ofNat 0) 14)::H) (.ok (.normal,hints (yk l y q (Int.ofNat l)++[(15,.bool false)]),yY m::H))) a6 [(iJ s l y,none),(.int .i64 q,none)] H =
 (fun (Z0:bn)=>((fun (Z1:av)=>Tr.req (bA 0 14) (Tr.req (bX 0 0) (Tr.req (lX 0 14 0 14) (Tr.reqP (Z1=Z1∧Z0::H=Z0::H) (Tr.req (lX 0 14 0 14) (Tr.ok ((AV.agg (Row.M [aW.arr .i64 (fH (fun x=>Int.ofNat 0) 0 m 14) 14]),none),H))))))) [(1,AV.int .i64 q),(4,AV.ptr 0 0 0 0),(5,AV.ptr 0 1 0 0),(12,aJ 7 l y),(13,AV.int .i64 (Int.ofNat l)),(14,AV.int .i64 (Int.ofNat 0))])) { lock:=false,bs:=[(0,ak.row (Row.M [aW.arr .i64 (fun x=>Int.ofNat 0) 14])),(0,ak.row (Row.M [aW.arr .i64 (fH (fun x=>Int.ofNat 0) 0 (fun x=>Int.ofNat 0) 14) 14]))] }:=by kernel_rfl
theorem MX (n s:Nat) (l:Nat) (y:Nat→Int) (H:aa):bw Tryz.prog (cd (n+3)) 100000 64 Tryz.f64 (KtB.kt 64) (il aU (n+1) 2) (gf aZ 0 (mC .nils l y 0) (aB::H) (.ok (.normal,hints (mC .nils l y (Int.ofNat l)++[(12,.bool false)]),aB::H))) a6 [(iJ s l y,none)] H =
 (fun (Z0:av)=>Tr.reqP (Z0=Z0∧aB::H=aB::H) (Tr.ok ((AV.nils,none),H))) [(3,AV.nils),(9,aJ 7 l y),(10,AV.int .i64 (Int.ofNat l)),(11,AV.int .i64 (Int.ofNat 0))]:=by kernel_rfl
theorem MY (n s:Nat) (l:Nat) (y g:Nat→Int) (H:aa) (v k:Nat):bw Tryz.prog (cd (n+3)) 100000 64 Tryz.f64 (KtB.kt 64) (il aU (n+1) 2) (gf aZ 0 (mC .nils l y 0) (aB::H) (.ok (.normal,hints (mC (.slc 0 0 v 0 1 k none) l y (Int.ofNat l)++[(12,.bool false)]),⟨false,[(v,.row (.M [.arr .i64 g k]))]⟩::H))) a6 [(iJ s l y,none)] H =
 (fun (Z0:av)=>Tr.reqP (Z0=Z0∧aB::H=aB::H) (Tr.req (bX v v) (Tr.req (lX 0 k 0 k) (Tr.ok ((AV.slcT none (Row.M [aW.arr .i64 (g7 g 0) k]) 1 k false,none),H))))) [(3,AV.nils),(9,aJ 7 l y),(10,AV.int .i64 (Int.ofNat l)),(11,AV.int .i64 (Int.ofNat 0))]:=by kernel_rfl
section
variable (n s l:Nat) (z:Nat→Int) (H:aa) (q:Int)
theorem NO (h:bp l z=0):cd (n+2) (.fn 56) [iJ s l (oY z l),.int .i64 q] H=some (.agg (.M [.arr .i64 (jA z q l) 14]),H):=by
 refine ba (n:=n+1) Tryz.func56 rfl rfl rfl (Qk n s l (oY z l) (jA z q l) H q) (dS n 1) (bL (ag _ _) Q7 (fun x hx=>by rw[← Tr.ab hx];simp only[gY.st,aY];exact S9 n l z H q h)) (ah _ _) ?_
 have hm:fH (fun x=>Int.ofNat 0) 0 (jA z q l) 14=jA z q l:=by
  obtain ⟨hl,_⟩:=bM h
  rw[lf];funext i;unfold rJ jA
  by_cases hi:i<14
  · simp[hi]
  · simp[hi,show ¬ i<l by omega]
 rw[hm]
 exact wF
theorem KW (h:bp l z=0):cd (n+4) (.fn 64) [iJ s l (oY z l)] H=some (dA (dl (gE z) l),H):=by
 have hx:=Q3 n l z H h
 cases e:dl (gE z) l with
 | nil =>
   rw[e] at hx
   refine ba (n:=n+3) Tryz.func64 rfl rfl rfl (MX n s l (oY z l) H) (dS (n+1) 2) (bL (ag _ _) Nn (fun x h=>by rw[← Tr.ab h];simp only[gY.st,aY];exact hx)) (ah _ _) ?_
   exact wF
 | cons a r =>
   rw[e] at hx
   refine ba (n:=n+3) Tryz.func64 rfl rfl rfl (MY n s l (oY z l) (an (a::r)) H r.length (r.length+1)) (dS (n+1) 2) (bL (ag _ _) Nn (fun x h=>by rw[← Tr.ab h];simp only[gY.st,aY];exact hx)) (ah _ _) ?_
   rw[df]
   exact wF
end
end Go.Eng
end
