/- Drop: Way of the program. -/
import Derived.Test.YtjmjkhpfipglcaaV8Wdx3
import Derived.Test.YtjmjkhpfipglcaaV8Kqx2
import Derived.Test.YtjmjkhpfipglcaaV8Kox10
section
namespace Go.Eng
open Go.Proofs
set_option linter.unusedVariables false
set_option linter.unusedSimpArgs false
set_option maxRecDepth 100000
def g80 (T:AV) (P Q:Int) (sure:Bool) (A:AV):List AV→Option (Prop×AV)
 | [t,.int .i64 p,.int .i64 q,.bool s]=>some (t=T∧p=P∧q=Q∧s=sure,A)
 | _=>none
theorem u29n (n:Nat) (w:Int) (ls ld:Nat) (zs zd sz kd:Nat→Int) (H:Heap) (p q:Int) (sure:Bool):bodyT Try.prog (cd (n+15)) 100000 29 Try.f29 (Kt.kt 29) (il (ctG (ctG noCt 68 (g68 (bathA w ls zs ld zd) p q (tabV w ls ld zs zd sz kd) 0)) 80 (g80 (tabV w ls ld zs zd sz kd) p q sure .nils)) (n+15) 0) noBT noRT [(bathA w ls zs ld zd,none),(.int .i64 p,none),(.int .i64 q,none),(.bool sure,none)] H =
 (fun (Z0:Row)=>Tr.reqP (bathA w ls zs ld zd=bathA w ls zs ld zd∧p=p∧q=q) (Tr.ite (notB (eqI (Int.ofNat 0) (Int.ofNat 0))) (Tr.ok ((AV.tup [AV.nils,AV.int .i64 (Int.ofNat 0)],none),H)) (Tr.reqP (AV.ptrT (some 0) Z0 0=AV.ptrT (some 0) Z0 0∧p=p∧q=q∧sure=sure) (Tr.ok ((AV.tup [AV.nils,AV.int .i64 (Int.ofNat 5)],none),H))))) (Row.M [Seg.one (AV.int .i64 w),Seg.one (slA 2 ls zs),Seg.one (slA 3 ld zd),Seg.one (AV.slcT none (Row.M [Seg.arr .i64 sz (mulO ls 2)]) 2 ls true),Seg.arr .i64 kd 144]):=by kernel_rfl
theorem u29y (n:Nat) (w:Int) (ls ld m:Nat) (zs zd sz kd z:Nat→Int) (H:Heap) (p q:Int) (sure:Bool):bodyT Try.prog (cd (n+15)) 100000 29 Try.f29 (Kt.kt 29) (il (ctG (ctG noCt 68 (g68 (bathA w ls zs ld zd) p q (tabV w ls ld zs zd sz kd) 0)) 80 (g80 (tabV w ls ld zs zd sz kd) p q sure (sl1 m z false))) (n+15) 0) noBT noRT [(bathA w ls zs ld zd,none),(.int .i64 p,none),(.int .i64 q,none),(.bool sure,none)] H =
 (fun (Z0:Row)=>Tr.reqP (bathA w ls zs ld zd=bathA w ls zs ld zd∧p=p∧q=q) (Tr.ite (notB (eqI (Int.ofNat 0) (Int.ofNat 0))) (Tr.ok ((AV.tup [AV.nils,AV.int .i64 (Int.ofNat 0)],none),H)) (Tr.reqP (AV.ptrT (some 0) Z0 0=AV.ptrT (some 0) Z0 0∧p=p∧q=q∧sure=sure) (Tr.ite (eqI (Int.ofNat m) (Int.ofNat 0)) (Tr.ok ((AV.tup [AV.nils,AV.int .i64 (Int.ofNat 5)],none),H)) (Tr.req (mkO (Int.ofNat m) (Int.ofNat m) 8) (Tr.req (leN (minN m (toN (Int.ofNat m))) m) (Tr.req (leN (addO 0 (minN m (toN (Int.ofNat m)))) m) (Tr.req (inO 0 (minN m (toN (Int.ofNat m))) 0 (toN (Int.ofNat m))) (Tr.req (eqN 0 0) (Tr.req (inO 0 (toN (Int.ofNat m)) 0 (toN (Int.ofNat m))) (Tr.ok ((AV.tup [AV.slcT none (Row.M [Seg.arr .i64 (shO (copO (fun x=>Int.ofNat 0) 0 z (minN m (toN (Int.ofNat m)))) 0) (toN (Int.ofNat m))]) 1 (toN (Int.ofNat m)) (eqN (toN (Int.ofNat m)) (toN (Int.ofNat m))),AV.int .i64 (Int.ofNat 0)],none),H)))))))))))) (Row.M [Seg.one (AV.int .i64 w),Seg.one (slA 2 ls zs),Seg.one (slA 3 ld zd),Seg.one (AV.slcT none (Row.M [Seg.arr .i64 sz (mulO ls 2)]) 2 ls true),Seg.arr .i64 kd 144]):=by kernel_rfl
section
variable (n:Nat) (w:Int) (ls ld:Nat) (zs zd:Nat→Int) (H:Heap) (p q:Int) (sure:Bool)
theorem ct80 (k:Nat) (t e A:AV) (ht:t=plT w ls ld zs zd p q) (e':Int) (he:e'=plE w ls ld zs zd p q) (T:AV) (h:∀ k H,cd (n+15+k) (.fn 80) [T,.int .i64 p,.int .i64 q,.bool sure] H=some (A,H)):(ctG (ctG noCt 68 (g68 (bathA w ls zs ld zd) p q t e')) 80 (g80 T p q sure A)).Ok (cd (n+15+k)):=by
 have:=ct68s (n+1) w ls ld zs zd p q k t e' ht he
 rw[show n+1+14+k=n+15+k by omega] at this
 refine ctG_ok this (fun args x v hg hp H=>?_)
 unfold g80 at hg
 split at hg
 · simp only[nP] at hg
   obtain ⟨rfl,rfl⟩:=hg
   obtain ⟨rfl,rfl,rfl,rfl⟩:=hp
   exact h _ H
 · cases hg
theorem c29n (he:plE w ls ld zs zd p q=0) (h:∀ k H,cd (n+15+k) (.fn 80) [tabV w ls ld zs zd (szs zd ld) (kdT w ls ld zs zd),.int .i64 p,.int .i64 q,.bool sure] H=some (.nils,H)):cd (n+16) (.fn 29) [bathA w ls zs ld zd,.int .i64 p,.int .i64 q,.bool sure] H=some (.tup [.nils,.int .i64 5],H):=by
 refine fn_all (n:=n+15) Try.func29 rfl rfl rfl (u29n n w ls ld zs zd (szs zd ld) (kdT w ls ld zs zd) H p q sure) (il_ok _ (n+15) 0 (fun k=>ct80 n w ls ld zs zd p q sure k _ .nilp _ (plT_ok w ls ld zs zd p q he) _ he.symm _ h)) (noBT_ok _ _) (noRT_ok _ _) ?_
 repeat' first | (refine Tr.all_ite (fun hc=>?_) (fun hc=>?_)<;>(try simp (disch:=omega) only[nV,nW,and_self,and_true,true_and] at hc)<;>try omega) | (refine Tr.all_req ?_ ?_;· (try simp (disch:=omega) only[nV,nW,and_self,and_true,true_and]);try omega) | (refine Tr.all_reqP ?_ ?_;· first | exact trivial | rfl | exact ⟨rfl,rfl⟩ | exact ⟨rfl,rfl,rfl⟩ | (simp (disch:=omega) only[nV,nW,and_self,and_true,true_and];done) | ((try simp (disch:=omega) only[nV,nW,and_self,and_true,true_and]);omega)) | fail
 exact Tr.all_ok ⟨rfl,rfl⟩
theorem c29z (he:plE w ls ld zs zd p q=0) (m:Nat) (hm:1≤m∧m≤1000) (z:Nat→Int) (h:∀ k H,cd (k+15) (.fn 80) [tabV w ls ld zs zd (szs zd ld) (kdT w ls ld zs zd),.int .i64 p,.int .i64 q,.bool sure] H=some (sl1 m z false,H)):∃ y,(∀ j,j<m→y j=z j)∧∀ n H,cd (n+16) (.fn 29) [bathA w ls zs ld zd,.int .i64 p,.int .i64 q,.bool sure] H=some (.tup [sl1 m y true,.int .i64 0],H):=by
 have et:toN (Int.ofNat m)=m:=by rw[toN_eq];rfl
 have em:minN m m=m:=by rw[minN_eq];omega
 have en:eqN m m=true:=by rw[eqN_eq];simp
 refine ⟨copO (fun x=>Int.ofNat 0) 0 z m,fun j hj=>?_,fun n H=>?_⟩
 · rw[copO_eq];unfold copZ;simp;omega
 · refine fn_all (n:=n+15) Try.func29 rfl rfl rfl (u29y n w ls ld m zs zd (szs zd ld) (kdT w ls ld zs zd) z H p q sure) (il_ok _ (n+15) 0 (fun k=>ct80 n w ls ld zs zd p q sure k _ .nilp _ (plT_ok w ls ld zs zd p q he) _ he.symm _ (fun k' H=>by rw[show n+15+k'=n+k'+15 by omega];exact h _ H))) (noBT_ok _ _) (noRT_ok _ _) ?_
   rw[et,em,en,shO_zero]
   repeat' first | (refine Tr.all_ite (fun hc=>?_) (fun hc=>?_)<;>(try simp (disch:=omega) only[nV,nW,and_self,and_true,true_and] at hc)<;>try omega) | (refine Tr.all_req ?_ ?_;· (try simp (disch:=omega) only[nV,nW,and_self,and_true,true_and]);try omega) | (refine Tr.all_reqP ?_ ?_;· first | exact trivial | rfl | exact ⟨rfl,rfl⟩ | exact ⟨rfl,rfl,rfl⟩ | (simp (disch:=omega) only[nV,nW,and_self,and_true,true_and];done) | ((try simp (disch:=omega) only[nV,nW,and_self,and_true,true_and]);omega)) | fail
   exact Tr.all_ok ⟨rfl,rfl⟩
end
end Go.Eng
end
section
namespace Go.Eng
open Go.Proofs
set_option linter.unusedVariables false
set_option linter.unusedSimpArgs false
set_option maxRecDepth 100000
def rC (z:Nat→Int) (hl:Int→Int→Bool) (a:Int) (j:Nat):Bool:=decide ((j:Int)-2≠a) && (decide (z j=z (a+2).toNat-1) && (decide (0<z j) && hl a ((j:Int)-2)))
def rX (z:Nat→Int) (hl:Int→Int→Bool) (a:Int):Nat→Int
 | 0=>-3
 | j+1=>if rX z hl a j=-3∧rC z hl a j=true then (j:Int)-2 else rX z hl a j
def rAt (z:Nat→Int) (hl:Int→Int→Bool) (ls:Nat) (p:Int):Nat→Int
 | 0=>p
 | k+1=>rX z hl (rAt z hl ls p k) (ls+2)
section
variable (n:Nat) (w:Int) (ls ld:Nat) (zs zd z y:Nat→Int) (H:Heap) (p q a:Int) (v m:Nat) (sure:Bool)
end
end Go.Eng
end
section
namespace Go.Eng
open Go.Proofs
set_option linter.unusedVariables false
set_option linter.unusedSimpArgs false
set_option maxRecDepth 100000
section
variable (n:Nat) (w:Int) (ls ld m:Nat) (zs zd sz kd z:Nat→Int) (H:Heap) (sure full:Bool)
end
end Go.Eng
end
section
namespace Go.Eng
open Go.Proofs
set_option linter.unusedVariables false
set_option linter.unusedSimpArgs false
section
variable {w:Int} {ls ld:Nat} {zs zd:Nat→Int} {sure:Bool}
theorem hlF_sym (h:chkB w ls ld zs zd=0) {a b:Int} (ha:-2≤a∧a<ls) (hb:-2≤b∧b<ls):hlF w ld zs zd sure a b=hlF w ld zs zd sure b a:=by
 unfold hlF;rw[knd_sym h ha hb]
theorem hlK_iff (h:chkB w ls ld zs zd=0) {a b:Int} (ha:-2≤a∧a<ls) (hb:-2≤b∧b<ls):hlK (kdT w ls ld zs zd) sure a b=true↔a≠b∧hlF w ld zs zd sure a b=true:=by
 by_cases e:a=b
 · subst e;rw[hlK_d h ha];simp
 · rw[hlK_F h ha hb e];simp[e]
theorem zi_of (h:chkB w ls ld zs zd=0) {q:Int} (hq:-2≤q∧q<ls):ZI ls (hlK (kdT w ls ld zs zd) sure) (q+2).toNat (stZ w ls ld zs zd sure q):=by
 have hI:=st_inv (N:=ls+2) (hl:=hlF w ld zs zd sure) (p:=q) hq.1 (ls+1)
 have hL:=st_lip (N:=ls+2) (hl:=hlF w ld zs zd sure) (p:=q) hq.1 (ls+1)
 have hz:stJ (st0 q) (hlF w ld zs zd sure) (ls+2) (ls+1)=stZ w ls ld zs zd sure q:=rfl
 rw[hz] at hI hL
 refine ⟨by omega,fun i=>⟨hI.uni i,fun e=>by rw[e];exact hI.one⟩,fun i=>by have:=hI.rng i;omega,fun i k hi hk hh h0=>?_,fun i hi=>?_,fun i hi=>?_⟩
 · obtain ⟨hne,hh⟩:=(hlK_iff h (by omega) (by omega)).1 hh
   rw[hlF_sym h (by omega) (by omega)] at hh
   have hki:k≠i:=fun e=>hne (by rw[e])
   have h1:=StI.closed (N:=ls+2) hI (by omega) hi hk hki hh h0
   exact ⟨h1,hL i k hi hk hki hh (by omega) (by omega)⟩
 · obtain ⟨g1,k,k1,k2,k3,k4⟩:=hI.prev i hi
   refine ⟨g1,k,k1,?_,k4⟩
   rw[hlF_sym h (by omega) (by omega)] at k3
   exact (hlK_iff h (by omega) (by omega)).2 ⟨by omega,k3⟩
 · have r:=hI.rng i
   by_cases e1:stZ w ls ld zs zd sure q i=1
   · have:=hI.uni i e1;omega
   · by_cases e2:2≤stZ w ls ld zs zd sure q i
     · have:=(hI.prev i e2).1;omega
     · omega
end
theorem ZI.below {ls t:Nat} {hl:Int→Int→Bool} {z:Nat→Int} (hZ:ZI ls hl t z):∀ (v i:Nat),z i=v→∀ u:Nat,1≤u→u≤v→∃ i,z i=u
 | 0,i,_,u,h1,h2=>by omega
 | v + 1,i,e,u,h1,h2=>by
   by_cases eu:u=v+1
   · subst eu;exact ⟨i,e⟩
   · obtain ⟨_,k,_,_,k3⟩:=hZ.prev i (by omega)
     exact hZ.below v k (by omega) u h1 (by omega)
theorem ws_end {kd:Nat→Int} {sure:Bool} {ls:Nat} {q:Int} (hls:ls≤10) (hq:-2≤q∧q<ls) {z:Nat→Int} (hZ:ZI ls (hlK kd sure) (q+2).toNat z) :
 ∃ N,N+1≤900∧(∀ k,k<N+1→0<(wsL kd sure ls q k).cW)∧(wsL kd sure ls q (N+1)).cW=0∧∀ i,z i≤((N+1:Nat):Int):=by
 obtain ⟨_,s2,s3,s4⟩:=fN_spec (fun k=>!exN (fun i=>decide (z i=(k:Int)+1)) (ls+2)) (ls+3) 0
 generalize fN (fun k=>!exN (fun i=>decide (z i=(k:Int)+1)) (ls+2)) (ls+3) 0=K at *
 have lt:∀ i v:Nat,z i=(v:Int)+1→i<ls+2:=fun i v e=>by
  by_cases hi:i<ls+2
  · exact hi
  · have:=hZ.out i (by omega);omega
 have P:∀ k:Nat,exN (fun i=>decide (z i=(k:Int)+1)) (ls+2)=true↔∃ i,z i=(k:Int)+1:=fun k=>by
  rw[exN_iff]
  exact ⟨fun ⟨i,_,h⟩=>⟨i,of_decide_eq_true h⟩,fun ⟨i,h⟩=>⟨i,lt i k h,decide_eq_true h⟩⟩
 have p0:∃ i,z i=((0:Nat):Int)+1:=⟨_,(hZ.one _).2 rfl⟩
 have hK3:K<ls+3:=by
  by_cases e:K<ls+3
  · exact e
  · have:=s3 (ls+2) (by omega) (by omega)
    have:exN (fun i=>decide (z i=((ls+2:Nat):Int)+1)) (ls+2)=true:=by simpa using this
    obtain ⟨i,hi⟩:=(P _).1 this
    have:=hZ.rng i;omega
 have hKn:¬ ∃ i,z i=(K:Int)+1:=fun hx=>by
  have:=s4 (by omega)
  rw[(P K).2 hx] at this;cases this
 have hKy:∀ k,k<K→∃ i,z i=(k:Int)+1:=fun k hk=>by
  have:=s3 k (by omega) hk
  exact (P k).1 (by simpa using this)
 have hK1:1≤K:=by
  by_cases e:1≤K
  · exact e
  · have:K=0:=by omega
    subst this;exact absurd p0 hKn
 obtain ⟨N,rfl⟩:∃ N,K=N+1:=⟨K-1,by omega⟩
 refine ⟨N,by omega,fun k hk=>?_,?_,fun i=>?_⟩
 · obtain ⟨i,hi⟩:=hKy k hk
   have hb:=ws_bi hq hZ k
   have hil:=lt i k hi
   have:=(hb.pW ((i:Int)-2)).2 ⟨by omega,.inl ⟨by rw[show ((i:Int)-2+2).toNat=i by omega];exact hi,by omega⟩⟩
   rw[hb.cW]
   exact cntR_pos (by omega) this _ (by omega)
 · have hb:=ws_bi hq hZ (N+1)
   rw[hb.cW]
   refine cntR_none (fun x=>?_) _
   cases hx:(wsL kd sure ls q (N+1)).hW x with
   | false=>rfl
   | true =>
     exfalso
     rcases ((hb.pW x).1 hx).2 with b | ⟨_,i,i1,_⟩
     · exact hKn ⟨_,b.1⟩
     · omega
 · have:=hZ.rng i
   by_cases e:z i≤((N+1:Nat):Int)
   · exact e
   · exfalso
     obtain ⟨i',hi'⟩:=hZ.below (z i).toNat i (by omega) (N+2) (by omega) (by omega)
     exact hKn ⟨i',by omega⟩
theorem rX_spec (z:Nat→Int) (hl:Int→Int→Bool) (a:Int):∀ N,(rX z hl a N=-3∧∀ i,i<N→rC z hl a i=false)∨∃ i:Nat,i<N∧rC z hl a i=true∧(∀ i',i'<i→rC z hl a i'=false)∧rX z hl a N=(i:Int)-2
 | 0=>.inl ⟨rfl,fun i hi=>by omega⟩
 | N + 1=>by
   have e:rX z hl a (N+1)=if rX z hl a N=-3∧rC z hl a N=true then (N:Int)-2 else rX z hl a N:=rfl
   rw[e]
   rcases rX_spec z hl a N with ⟨h1,h2⟩ | ⟨i,i1,i2,i3,i4⟩
   · by_cases hc:rC z hl a N=true
     · rw[if_pos ⟨h1,hc⟩]
       exact .inr ⟨N,by omega,hc,h2,rfl⟩
     · rw[if_neg (fun x=>hc x.2)]
       refine .inl ⟨h1,fun i hi=>?_⟩
       by_cases ei:i=N
       · subst ei;simpa using hc
       · exact h2 i (by omega)
   · rw[if_neg (fun x=>by omega)]
     exact .inr ⟨i,by omega,i2,i3,i4⟩
section
variable {w:Int} {ls ld:Nat} {zs zd:Nat→Int} {sure:Bool}
theorem walk_eq (h:chkB w ls ld zs zd=0) {p q:Int} (hp:-2≤p∧p<ls) (hq:-2≤q∧q<ls) {N:Nat} (hN:∀ i,stZ w ls ld zs zd sure q i≤((N+1:Nat):Int)) (h0:0<stZ w ls ld zs zd sure q (p+2).toNat) :
 ∀ k:Nat,(k:Int)≤stZ w ls ld zs zd sure q (p+2).toNat-1 →
  wAt (kdT w ls ld zs zd) sure ls (wsL (kdT w ls ld zs zd) sure ls q (N+1)) p k=rAt (stZ w ls ld zs zd sure q) (hlF w ld zs zd sure) ls p k ∧
  (-2≤rAt (stZ w ls ld zs zd sure q) (hlF w ld zs zd sure) ls p k∧rAt (stZ w ls ld zs zd sure q) (hlF w ld zs zd sure) ls p k<ls) ∧
  stZ w ls ld zs zd sure q (rAt (stZ w ls ld zs zd sure q) (hlF w ld zs zd sure) ls p k+2).toNat=stZ w ls ld zs zd sure q (p+2).toNat-k
 | 0,_=>⟨rfl,hp,by show stZ w ls ld zs zd sure q (p+2).toNat=_;omega⟩
 | k + 1,hk=>by
   obtain ⟨i1,i2,i3⟩:=walk_eq h hp hq hN h0 k (by omega)
   have hZ:=zi_of (sure:=sure) h hq
   have hb:=ws_bi hq hZ (N+1)
   have hs:∀ x:Int,-2≤x∧x<ls→((wsL (kdT w ls ld zs zd) sure ls q (N+1)).hS x=true↔0<stZ w ls ld zs zd sure q (x+2).toNat):=fun x hx=>by
    rw[hb.pS]
    have:=hN (x+2).toNat
    constructor
    · rintro ⟨_,b | ⟨_,i,i1,_⟩⟩<;>omega
    · intro e;exact ⟨hx,.inl (by omega)⟩
   have hgp:(wsL (kdT w ls ld zs zd) sure ls q (N+1)).gS p=stZ w ls ld zs zd sure q (p+2).toNat-1:=hb.vS p ((hs p hp).2 h0)
   have eW:wAt (kdT w ls ld zs zd) sure ls (wsL (kdT w ls ld zs zd) sure ls q (N+1)) p (k+1)=wFs (kdT w ls ld zs zd) sure ls (wsL (kdT w ls ld zs zd) sure ls q (N+1)) ((wsL (kdT w ls ld zs zd) sure ls q (N+1)).gS p-((k+1:Nat):Int)) (wAt (kdT w ls ld zs zd) sure ls (wsL (kdT w ls ld zs zd) sure ls q (N+1)) p k):=rfl
   have eR:rAt (stZ w ls ld zs zd sure q) (hlF w ld zs zd sure) ls p (k+1)=rX (stZ w ls ld zs zd sure q) (hlF w ld zs zd sure) (rAt (stZ w ls ld zs zd sure q) (hlF w ld zs zd sure) ls p k) (ls+2):=rfl
   rw[eW,eR,i1,hgp]
   generalize rAt (stZ w ls ld zs zd sure q) (hlF w ld zs zd sure) ls p k=a at *
   generalize wsL (kdT w ls ld zs zd) sure ls q (N+1)=S at *
   have same:∀ j,j<ls+2→nrH (kdT w ls ld zs zd) sure a (fun j=>!wGo S (stZ w ls ld zs zd sure q (p+2).toNat-1-((k+1:Nat):Int)) ((j:Int)-2)) j=rC (stZ w ls ld zs zd sure q) (hlF w ld zs zd sure) a j:=fun j hj=>by
    rw[Bool.eq_iff_iff]
    unfold nrH rC wGo
    simp only[Bool.and_eq_true,Bool.not_not,decide_eq_true_eq]
    rw[hlK_iff h i2 (by omega),hs _ (by omega)]
    have ejj:((j:Int)-2+2).toNat=j:=by omega
    constructor
    · rintro ⟨⟨a1,a2⟩,a3,a4⟩
      have:=hb.vS ((j:Int)-2) ((hs _ (by omega)).2 a3)
      rw[ejj] at this a3
      exact ⟨fun x=>a1 x.symm,by omega,a3,a2⟩
    · rintro ⟨a1,a2,a3,a4⟩
      have h3:0<stZ w ls ld zs zd sure q ((j:Int)-2+2).toNat:=by rw[ejj];exact a3
      have:=hb.vS ((j:Int)-2) ((hs _ (by omega)).2 h3)
      rw[ejj] at this
      exact ⟨⟨fun x=>a1 x.symm,a4⟩,h3,by omega⟩
   obtain ⟨_,j,j1,j2,j3⟩:=hZ.prev (a+2).toNat (by omega)
   have hcj:rC (stZ w ls ld zs zd sure q) (hlF w ld zs zd sure) a j=true:=by
    rw[show (((a+2).toNat:Nat):Int)-2=a by omega] at j2
    obtain ⟨b1,b2⟩:=(hlK_iff h (by omega) i2).1 j2
    rw[hlF_sym h (by omega) i2] at b2
    unfold rC
    simp only[Bool.and_eq_true,decide_eq_true_eq]
    exact ⟨b1,j3,by omega,b2⟩
   rcases rX_spec (stZ w ls ld zs zd sure q) (hlF w ld zs zd sure) a (ls+2) with ⟨_,c2⟩ | ⟨i,c1,c2,c3,c4⟩
   · rw[c2 j j1] at hcj;cases hcj
   · have hex:exN (nrH (kdT w ls ld zs zd) sure a (fun j=>!wGo S (stZ w ls ld zs zd sure q (p+2).toNat-1-((k+1:Nat):Int)) ((j:Int)-2))) (ls+2)=true:=(exN_iff _ _).2 ⟨i,c1,by rw[same i c1];exact c2⟩
     obtain ⟨d1,d2,d3,d4⟩:=fN_spec (nrH (kdT w ls ld zs zd) sure a (fun j=>!wGo S (stZ w ls ld zs zd sure q (p+2).toNat-1-((k+1:Nat):Int)) ((j:Int)-2))) (ls+2) 0
     have hfi:fN (nrH (kdT w ls ld zs zd) sure a (fun j=>!wGo S (stZ w ls ld zs zd sure q (p+2).toNat-1-((k+1:Nat):Int)) ((j:Int)-2))) (ls+2) 0=i:=by
      generalize fN (nrH (kdT w ls ld zs zd) sure a (fun j=>!wGo S (stZ w ls ld zs zd sure q (p+2).toNat-1-((k+1:Nat):Int)) ((j:Int)-2))) (ls+2) 0=F at *
      by_cases e1:F<i
      · have:=d4 (by omega);rw[same F (by omega),c3 F e1] at this;cases this
      · by_cases e2:i<F
        · have:=d3 i (by omega) e2;rw[same i c1,c2] at this;cases this
        · omega
     refine ⟨?_,by omega,?_⟩
     · unfold wFs
       rw[if_pos hex,hfi,c4]
     · rw[c4,show ((i:Int)-2+2).toNat=i by omega]
       unfold rC at c2
       simp only[Bool.and_eq_true,decide_eq_true_eq] at c2
       have:=c2.2.1
       omega
end
end Go.Eng
end
section
namespace Go.Eng
open Go.Proofs
set_option linter.unusedVariables false
set_option linter.unusedSimpArgs false
set_option maxRecDepth 100000
theorem wLs_congr {A B:Nat→Int}:∀ k:Nat,(∀ i,i≤k→A i=B i)→wLs A k=wLs B k
 | 0,h=>by show [A 0]=[B 0];rw[h 0 (by omega)]
 | k+1,h=>by
   show wLs A k++[A (k+1)]=wLs B k++[B (k+1)]
   rw[wLs_congr k (fun i hi=>h i (by omega)),h (k+1) (by omega)]
section
variable (n:Nat) (w:Int) (ls ld lm:Nat) (zs zd zm:Nat→Int) (H:Heap) (p q:Int) (sure:Bool)
end
end Go.Eng
end
section
namespace Go.Eng
open Go.Proofs
set_option linter.unusedVariables false
set_option linter.unusedSimpArgs false
theorem sumS_zero {ls ld:Nat} {zd:Nat→Int} (hd:∀ j,j<ld→badD ls zd j=false) (hl:ld≤100) (s:Int):∀ j,j≤ld→0≤sumS zd (upto (endS false zd) ld) s j∧sumS zd (upto (endS false zd) ld) s j≤10000*j∧0≤sumS zd (upto (endS true zd) ld) s j∧sumS zd (upto (endS true zd) ld) s j≤10000*j∧(sumS zd (upto (endS false zd) ld) s j=0↔sumS zd (upto (endS true zd) ld) s j=0)
 | 0,_=>⟨Int.le_refl _,Int.le_refl _,Int.le_refl _,Int.le_refl _,Iff.rfl⟩
 | j + 1,hj=>by
   obtain ⟨i1,i2,i3,i4,i5⟩:=sumS_zero hd hl s j (by omega)
   have b:=hd j (by omega)
   simp only[badD,Bool.or_eq_false_iff,decide_eq_false_iff_not] at b
   have u0:upto (endS false zd) ld j=zd (j*3+1):=by unfold upto;rw[if_pos (by omega)];rfl
   have u1:upto (endS true zd) ld j=zd (j*3+2):=by unfold upto;rw[if_pos (by omega)];rfl
   simp only[sumS,u0,u1]
   by_cases e:zd (j*3)=s
   · rw[if_pos e,if_pos e,wr_64 (by omega) (by omega),wr_64 (by omega) (by omega)]
     refine ⟨by omega,by omega,by omega,by omega,?_⟩
     constructor<;>intro h<;>omega
   · rw[if_neg e,if_neg e]
     exact ⟨by omega,by omega,by omega,by omega,i5⟩
section
variable {w:Int} {ls ld:Nat} {zs zd:Nat→Int} {sure:Bool}
theorem gp_grB (h:chkB w ls ld zs zd=0) (j:Nat) (hj:j<ls+2):gpB (szs zd ld) (kdT w ls ld zs zd) sure ls ((j:Int)-2)=grB w ls ld zs zd sure j:=by
 have hc:=chk_drops h
 have ck:=chk_ok h
 unfold gpB grB
 rw[gp_jn h ⟨by omega,by omega⟩]
 have e1:decide (0≤(j:Int)-2)=decide (2≤j):=by
  rw[decide_eq_decide];omega
 rw[e1]
 by_cases e:2≤j
 · have:=(szs_sum zd ld ((j:Int)-2).toNat (fun j hj=>(hc.2.2 j hj).1) ld (Nat.le_refl _)).2
   rw[show ((((j:Int)-2).toNat:Nat):Int)=(j:Int)-2 by omega] at this
   have hz:=(sumS_zero ck.2.2.2.2.2 (by omega) ((j:Int)-2) ld (Nat.le_refl _)).2.2.2.2
   rw[this]
   have e2:decide (sumS zd (upto (endS true zd) ld) ((j:Int)-2) ld=0)=decide (szE false zd ld ((j:Int)-2)=0):=by
    rw[decide_eq_decide];exact hz.symm
   rw[e2]
 · rw[decide_eq_false e];rfl
theorem gp_gr (h:chkB w ls ld zs zd=0):∀ j,j≤ls+2→gpN (szs zd ld) (kdT w ls ld zs zd) sure ls j=grL w ls ld zs zd sure j
 | 0,_=>rfl
 | j+1,hj=>by
   have ih:=gp_gr h j (by omega)
   show gpStep _ _ _ _ _ _=(if grB w ls ld zs zd sure j=true then _ else _)
   unfold gpStep
   rw[gp_grB h j (by omega),ih,gp_jn h ⟨by omega,by omega⟩]
theorem gpA_groA:gpA w ls ld zs zd sure=groA w ls ld zs zd sure:=by
 unfold gpA groA
 by_cases h:chkB w ls ld zs zd=0
 · rw[if_neg (fun x=>x h),if_neg (fun x=>x h)]
   have e:gpT w ls ld zs zd sure=grL w ls ld zs zd sure (ls+2):=gp_gr h (ls+2) (Nat.le_refl _)
   have hne:=gr_ne w ls ld zs zd sure (ls+1)
   rw[e]
   generalize grL w ls ld zs zd sure (ls+1+1)=L at *
   cases L with
   | nil=>exact absurd rfl hne
   | cons x r=>rfl
 · rw[if_pos h,if_pos h]
end
end Go.Eng
end
section
namespace Go.Eng
open Go.Proofs
set_option linter.unusedVariables false
set_option linter.unusedSimpArgs false
set_option maxRecDepth 100000
section
variable {w:Int} {ls ld:Nat} {zs zd:Nat→Int} {sure:Bool} {p q:Int}
end
section
variable (n:Nat) (w:Int) (ls ld lm:Nat) (zs zd zm:Nat→Int) (H:Heap) (p q:Int) (sure:Bool)
end
end Go.Eng
end
section
namespace Go.Eng
open Go.Proofs
set_option linter.unusedVariables false
set_option linter.unusedSimpArgs false
theorem exN_off {f:Nat→Bool} {N:Nat} (h:∀ i,i<N→f i=false):exN f N=false:=by
 cases e:exN f N with
 | false=>rfl
 | true=>obtain ⟨i,i1,i2⟩:=(exN_iff _ _).1 e;rw[h i i1] at i2;cases i2
section
variable {w:Int} {ls ld lb:Nat} {zs zd zb:Nat→Int} {sure:Bool} {p q:Int}
theorem st_sym (h:chkB w ls ld zs zd=0) (hp:-2≤p∧p<ls) (hq:-2≤q∧q<ls) (h0:0<stZ w ls ld zs zd sure p (q+2).toNat):0<stZ w ls ld zs zd sure q (p+2).toNat:=by
 have hP:=zi_of (sure:=sure) h hp
 have hQ:=zi_of (sure:=sure) h hq
 have key:∀ v i:Nat,i<ls+2→stZ w ls ld zs zd sure p i=v→0<v→0<stZ w ls ld zs zd sure q i→0<stZ w ls ld zs zd sure q (p+2).toNat:=by
  intro v
  induction v with
  | zero=>intro i _ _ h;omega
  | succ v ih =>
    intro i hi hv _ hz
    by_cases h1:v=0
    · have:=(hP.one i).1 (by omega)
      rw[← this];exact hz
    · obtain ⟨_,k,k1,k2,k3⟩:=hP.prev i (by omega)
      refine ih k k1 (by omega) (by omega) ?_
      obtain ⟨x1,x2⟩:=(hlK_iff h (a:=(k:Int)-2) (b:=(i:Int)-2) (by omega) (by omega)).1 k2
      exact (hQ.nb k i k1 hi ((hlK_iff h (by omega) (by omega)).2 ⟨fun x=>x1 x.symm,by rw[hlF_sym h (by omega) (by omega)];exact x2⟩) hz).1
 have:=hP.rng (q+2).toNat
 exact key (stZ w ls ld zs zd sure p (q+2).toNat).toNat (q+2).toNat (by omega) (by omega) (by omega) (by rw[(hQ.one _).2 rfl];decide)
theorem inN_lst {L:List Int} {x:Int}:inN (lstO L) L.length x=true↔x ∈ L:=by
 unfold inN
 rw[exN_iff]
 constructor
 · rintro ⟨i,i1,i2⟩
   have i2:=of_decide_eq_true i2
   rw[lst_val,List.getD_eq_getElem?_getD,List.getElem?_eq_getElem i1] at i2
   rw[← i2];exact List.getElem_mem i1
 · intro hx
   obtain ⟨i,i1,i2⟩:=List.getElem_of_mem hx
   refine ⟨i,i1,decide_eq_true ?_⟩
   rw[lst_val,List.getD_eq_getElem?_getD,List.getElem?_eq_getElem i1];exact i2
theorem jn_iff (hp:-2≤p∧p<ls) {x:Int}:x ∈ jnL w ls ld zs zd sure p↔(-2≤x∧x<ls)∧0<stZ w ls ld zs zd sure p (x+2).toNat:=by
 unfold jnL
 rw[plL_mem]
 constructor
 · rintro ⟨i,i1,i2,rfl⟩
   have i2:=of_decide_eq_true i2
   refine ⟨by omega,?_⟩
   rw[show ((i:Int)-2+2).toNat=i by omega];exact i2
 · rintro ⟨h1,h2⟩
   exact ⟨(x+2).toNat,by omega,decide_eq_true h2,by omega⟩
end
end Go.Eng
end
section
namespace Go.Eng
open Go.Proofs
set_option linter.unusedVariables false
set_option linter.unusedSimpArgs false
def thr (ld:Nat) (zd:Nat→Int) (v:Int):Bool:=decide (v<0) || exN (fun j=>decide (zd (j*3)=v)) ld
section
variable {w:Int} {ls ld:Nat} {zs zd:Nat→Int} {sure:Bool} {p q:Int}
theorem sum_off {tr:Nat→Int} {s:Int}:∀ j,(∀ i,i<j→zd (i*3)≠s)→sumS zd tr s j=0
 | 0,_=>rfl
 | j+1,h=>by
   unfold sumS
   rw[if_neg (h j (by omega))]
   exact sum_off j (fun i hi=>h i (by omega))
theorem sum_on (hd:∀ j,j<ld→badD ls zd j=false) (hl:ld≤100) (s:Int):∀ j,j≤ld→0≤sumS zd (upto (endS false zd) ld) s j∧sumS zd (upto (endS false zd) ld) s j≤10000*j∧((∃ i,i<j∧zd (i*3)=s)→0<sumS zd (upto (endS false zd) ld) s j)
 | 0,_=>⟨Int.le_refl _,Int.le_refl _,fun ⟨i,hi,_⟩=>absurd hi (by omega)⟩
 | j + 1,hj=>by
   obtain ⟨i1,i2,i3⟩:=sum_on hd hl s j (by omega)
   have b:=hd j (by omega)
   simp only[badD,Bool.or_eq_false_iff,decide_eq_false_iff_not] at b
   have u0:upto (endS false zd) ld j=zd (j*3+1):=by unfold upto;rw[if_pos (by omega)];rfl
   simp only[sumS,u0]
   by_cases e:zd (j*3)=s
   · rw[if_pos e,wr_64 (by omega) (by omega)]
     exact ⟨by omega,by omega,fun _=>by omega⟩
   · rw[if_neg e]
     refine ⟨by omega,by omega,?_⟩
     rintro ⟨i,h1,h2⟩
     by_cases x:i=j
     · subst x;exact absurd h2 e
     · exact i3 ⟨i,by omega,h2⟩
theorem thr_iff {v:Int}:thr ld zd v=true↔v<0∨∃ i,i<ld∧zd (i*3)=v:=by
 unfold thr
 rw[Bool.or_eq_true,decide_eq_true_eq,exN_iff]
 constructor
 · rintro (h | ⟨i,h1,h2⟩)
   · exact .inl h
   · exact .inr ⟨i,h1,of_decide_eq_true h2⟩
 · rintro (h | ⟨i,h1,h2⟩)
   · exact .inl h
   · exact .inr ⟨i,h1,decide_eq_true h2⟩
theorem hl_thr {b:Int} {a:Int} (hl:hlF w ld zs zd sure a b=true):thr ld zd b=true:=by
 rw[thr_iff]
 by_cases hb:b<0
 · exact .inl hb
 refine .inr (Classical.byContradiction fun hn=>?_)
 have z:∀ h,szE h zd ld b=0:=fun h=>sum_off ld (fun i hi e=>hn ⟨i,hi,e⟩)
 have t:∀ h,touchT w zs (szE h zd ld) a b=false:=fun h=>by
  unfold touchT
  rw[if_neg (by omega)]
  by_cases ha:a<0
  · simp only[if_pos ha,z h,if_true]
  · simp only[if_neg ha]
    split
    · rfl
    · rw[if_neg (by omega),if_pos (by omega)]
      unfold bothT
      rw[z h];rfl
 have:=of_decide_eq_true hl
 unfold kndR at this
 simp only[t,Bool.false_eq_true,if_false] at this
 cases sure<;>simp at this
theorem hl_le {a b:Int} (hl:hlF w ld zs zd true a b=true):hlF w ld zs zd false a b=true:=by
 have:=of_decide_eq_true hl
 simp only[if_true] at this
 exact decide_eq_true (by simp only[Bool.false_eq_true,if_false];omega)
theorem st_trans (h:chkB w ls ld zs zd=0) {x y:Int} (hp:-2≤p∧p<ls) (hx:-2≤x∧x<ls) (hy:-2≤y∧y<ls) {s2:Bool} (hs:∀ a b,hlF w ld zs zd s2 a b=true→hlF w ld zs zd sure a b=true) (h1:0<stZ w ls ld zs zd sure p (x+2).toNat) (h2:0<stZ w ls ld zs zd s2 x (y+2).toNat):0<stZ w ls ld zs zd sure p (y+2).toNat:=by
 have hP:=zi_of (sure:=sure) h hp
 have hX:=zi_of (sure:=s2) h hx
 have key:∀ v i:Nat,i<ls+2→stZ w ls ld zs zd s2 x i=v→0<v→0<stZ w ls ld zs zd sure p i:=by
  intro v
  induction v with
  | zero=>intro i _ _ h;omega
  | succ v ih =>
    intro i hi hv _
    by_cases e:v=0
    · have:=(hX.one i).1 (by omega)
      rw[this];exact h1
    · obtain ⟨_,k,k1,k2,k3⟩:=hX.prev i (by omega)
      obtain ⟨x1,x2⟩:=(hlK_iff h (a:=(k:Int)-2) (b:=(i:Int)-2) (by omega) (by omega)).1 k2
      exact (hP.nb i k hi k1 ((hlK_iff h (by omega) (by omega)).2 ⟨x1,hs _ _ x2⟩) (ih k k1 (by omega) (by omega))).1
 have:=hX.rng (y+2).toNat
 exact key (stZ w ls ld zs zd s2 x (y+2).toNat).toNat (y+2).toNat (by omega) (by omega) (by omega)
theorem jn_same (h:chkB w ls ld zs zd=0) (hp:-2≤p∧p<ls) {x:Int} (hx:x ∈ jnL w ls ld zs zd sure p):jnL w ls ld zs zd sure x=jnL w ls ld zs zd sure p:=by
 obtain ⟨h1,h2⟩:=(jn_iff hp).1 hx
 refine inc_ext _ _ (plL_inc _ _) (plL_inc _ _) (fun y=>?_)
 rw[jn_iff h1,jn_iff hp]
 constructor
 · rintro ⟨a,b⟩;exact ⟨a,st_trans h hp h1 a (fun _ _ e=>e) h2 b⟩
 · rintro ⟨a,b⟩;exact ⟨a,st_trans h h1 hp a (fun _ _ e=>e) (st_sym h hp h1 h2) b⟩
theorem jn_mono (h:chkB w ls ld zs zd=0) (hp:-2≤p∧p<ls) {x:Int} (hx:x ∈ jnL w ls ld zs zd true p):x ∈ jnL w ls ld zs zd false p:=by
 obtain ⟨h1,h2⟩:=(jn_iff hp).1 hx
 refine (jn_iff hp).2 ⟨h1,st_trans h hp hp h1 (s2:=true) (fun _ _ e=>hl_le e) ?_ h2⟩
 rw[((zi_of (sure:=false) h hp).one _).2 rfl];decide
theorem jn_thr (h:chkB w ls ld zs zd=0) (hp:-2≤p∧p<ls) {x:Int} (hx:x ∈ jnL w ls ld zs zd sure p) (hn:x≠p):thr ld zd x=true:=by
 obtain ⟨h1,h2⟩:=(jn_iff hp).1 hx
 have hP:=zi_of (sure:=sure) h hp
 have:stZ w ls ld zs zd sure p (x+2).toNat≠1:=fun e=>hn (by have:=(hP.one _).1 e;omega)
 obtain ⟨_,k,k1,k2,k3⟩:=hP.prev (x+2).toNat (by omega)
 rw[show (((x+2).toNat:Nat):Int)-2=x by omega] at k2
 exact hl_thr ((hlK_iff h (by omega) h1).1 k2).2
theorem lst_mem {L:List Int} {i:Nat} (hi:i<L.length):lstO L i ∈ L:=by
 rw[lst_val,List.getD_eq_getElem?_getD,List.getElem?_eq_getElem hi];exact List.getElem_mem hi
theorem jn_lt {i k:Nat} (hik:i<k) (hk:k<(jnL w ls ld zs zd sure p).length):lstO (jnL w ls ld zs zd sure p) i<lstO (jnL w ls ld zs zd sure p) k:=by
 have:=List.pairwise_iff_getElem.1 (plL_inc (fun i=>decide (0<stZ w ls ld zs zd sure p i)) (ls+2)) i k (by show i<(jnL w ls ld zs zd sure p).length;omega) hk hik
 rw[lst_val,lst_val,List.getD_eq_getElem?_getD,List.getD_eq_getElem?_getD,List.getElem?_eq_getElem hk,List.getElem?_eq_getElem (show i<(jnL w ls ld zs zd sure p).length by omega)]
 exact this
theorem jn_pos (hp:-2≤p∧p<ls):0<(jnL w ls ld zs zd sure p).length:=List.length_pos_of_mem (jn_self w ls ld zs zd sure p hp)
noncomputable def hdJ (w:Int) (ls ld:Nat) (zs zd:Nat→Int) (sure:Bool) (p:Int):Int:=lstO (jnL w ls ld zs zd sure p) 0
theorem grB_iff (h:chkB w ls ld zs zd=0) (j:Nat):grB w ls ld zs zd sure j=true↔thr ld zd ((j:Int)-2)=true∧hdJ w ls ld zs zd sure ((j:Int)-2)=(j:Int)-2:=by
 have ck:=chk_ok h
 unfold grB hdJ
 rw[Bool.and_eq_true,Bool.not_eq_true',Bool.and_eq_false_iff,decide_eq_false_iff_not,decide_eq_false_iff_not,decide_eq_true_eq,thr_iff]
 constructor
 · rintro ⟨h1,h2⟩
   refine ⟨Classical.byContradiction fun hn=>?_,h2⟩
   have:szE false zd ld ((j:Int)-2)=0:=sum_off ld (fun i hi e=>hn (.inr ⟨i,hi,e⟩))
   rcases h1 with x | x
   · exact hn (.inl (by omega))
   · exact x this
 · rintro ⟨h1,h2⟩
   refine ⟨?_,h2⟩
   rcases h1 with x | x
   · exact .inl (by omega)
   · exact .inr (by have:=(sum_on (ld:=ld) ck.2.2.2.2.2 (by omega) ((j:Int)-2) ld (Nat.le_refl _)).2.2 x;unfold szE;omega)
noncomputable def grG (w:Int) (ls ld:Nat) (zs zd:Nat→Int) (sure:Bool) (j:Nat):List Nat:=(List.range j).filter (grB w ls ld zs zd sure)
theorem grL_map:∀ j,grL w ls ld zs zd sure j=(grG w ls ld zs zd sure j).map (fun (i:Nat)=>jnL w ls ld zs zd sure ((i:Int)-2))
 | 0=>rfl
 | j+1=>by
   have ih:=grL_map j
   show (if grB w ls ld zs zd sure j=true then _ else _)=_
   rw[ih]
   unfold grG
   rw[List.range_succ,List.filter_append,List.map_append]
   cases hb:grB w ls ld zs zd sure j with
   | true=>rw[if_pos rfl,List.filter_cons,hb];rfl
   | false=>rw[if_neg (by decide),List.filter_cons,hb];simp
theorem gr_get (h:chkB w ls ld zs zd=0):∃ g:Nat→Int,(∀ i,i<(grL w ls ld zs zd sure (ls+2)).length→(-2≤g i∧g i<ls)∧thr ld zd (g i)=true∧hdJ w ls ld zs zd sure (g i)=g i∧lstO (jnL w ls ld zs zd sure (g i))=el1 (grL w ls ld zs zd sure (ls+2)) i∧(jnL w ls ld zs zd sure (g i)).length=el2 (grL w ls ld zs zd sure (ls+2)) i) ∧
 (∀ i k,i<k→k<(grL w ls ld zs zd sure (ls+2)).length→g i<g k) ∧
 ∀ v:Int,-2≤v∧v<ls→thr ld zd v=true→hdJ w ls ld zs zd sure v=v→∃ i,i<(grL w ls ld zs zd sure (ls+2)).length∧g i=v:=by
 have hlen:(grL w ls ld zs zd sure (ls+2)).length=(grG w ls ld zs zd sure (ls+2)).length:=by rw[grL_map,List.length_map]
 have hinc:(grG w ls ld zs zd sure (ls+2)).Pairwise (· < ·):=(List.pairwise_lt_range).filter _
 have hel:∀ i,i<(grG w ls ld zs zd sure (ls+2)).length→elL (grL w ls ld zs zd sure (ls+2)) i=jnL w ls ld zs zd sure ((((grG w ls ld zs zd sure (ls+2)).getD i 0:Nat):Int)-2):=fun i hi=>by
  unfold elL
  rw[List.getD_eq_getElem?_getD,List.getD_eq_getElem?_getD,grL_map,List.getElem?_map,List.getElem?_eq_getElem hi];rfl
 refine ⟨fun i=>(((grG w ls ld zs zd sure (ls+2)).getD i 0:Nat):Int)-2,fun i hi=>?_,fun i k hik hk=>?_,fun v hv ht hh=>?_⟩
 · rw[hlen] at hi
   have hm:(grG w ls ld zs zd sure (ls+2)).getD i 0 ∈ grG w ls ld zs zd sure (ls+2):=by
    rw[List.getD_eq_getElem?_getD,List.getElem?_eq_getElem hi];exact List.getElem_mem hi
   have he:=hel i hi
   dsimp only
   generalize (grG w ls ld zs zd sure (ls+2)).getD i 0=G at *
   obtain ⟨m1,m2⟩:=List.mem_filter.1 hm
   have m1:=List.mem_range.1 m1
   obtain ⟨b1,b2⟩:=(grB_iff h G).1 m2
   refine ⟨⟨by omega,by omega⟩,b1,b2,?_,?_⟩
   · unfold el1;rw[he]
   · unfold el2;rw[he]
 · rw[hlen] at hk
   have:=List.pairwise_iff_getElem.1 hinc i k (by omega) hk hik
   dsimp only
   rw[List.getD_eq_getElem?_getD,List.getD_eq_getElem?_getD,List.getElem?_eq_getElem hk,List.getElem?_eq_getElem (show i<(grG w ls ld zs zd sure (ls+2)).length by omega)]
   simp only[Option.getD_some]
   omega
 · have hm:(v+2).toNat ∈ grG w ls ld zs zd sure (ls+2):=List.mem_filter.2 ⟨List.mem_range.2 (by omega),(grB_iff h _).2 (by rw[show (((v+2).toNat:Nat):Int)-2=v by omega];exact ⟨ht,hh⟩)⟩
   obtain ⟨i,i1,i2⟩:=List.getElem_of_mem hm
   refine ⟨i,by omega,?_⟩
   dsimp only
   rw[List.getD_eq_getElem?_getD,List.getElem?_eq_getElem i1,i2]
   simp only[Option.getD_some]
   omega
theorem gr_in (h:chkB w ls ld zs zd=0) {v:Int} (hv:-2≤v∧v<ls) (ht:thr ld zd v=true):∃ i,i<(grL w ls ld zs zd sure (ls+2)).length∧∀ k,k<(grL w ls ld zs zd sure (ls+2)).length→inN (el1 (grL w ls ld zs zd sure (ls+2)) k) (el2 (grL w ls ld zs zd sure (ls+2)) k) v=decide (k=i):=by
 obtain ⟨g,g1,g2,g3⟩:=gr_get (sure:=sure) h
 have hm:hdJ w ls ld zs zd sure v ∈ jnL w ls ld zs zd sure v:=lst_mem (jn_pos hv)
 have e:=jn_same h hv hm
 have hd:=(jn_iff hv).1 hm
 obtain ⟨i,i1,i2⟩:=g3 (hdJ w ls ld zs zd sure v) hd.1 (by
  by_cases x:hdJ w ls ld zs zd sure v=v
  · rw[x];exact ht
  · exact jn_thr h hv hm x) (by show lstO (jnL w ls ld zs zd sure (hdJ w ls ld zs zd sure v)) 0=_;rw[e];rfl)
 refine ⟨i,i1,fun k hk=>?_⟩
 obtain ⟨k1,k2,k3,k4,k5⟩:=g1 k hk
 rw[← k4,← k5,Bool.eq_iff_iff,inN_lst,decide_eq_true_eq]
 constructor
 · intro hx
   have e2:=jn_same h k1 hx
   have:hdJ w ls ld zs zd sure v=g k:=by
    show lstO (jnL w ls ld zs zd sure v) 0=_
    rw[e2];exact k3
   by_cases a:k<i
   · have:=g2 k i a i1;omega
   · by_cases b:i<k
     · have:=g2 i k b hk;omega
     · omega
 · intro hx
   subst hx
   rw[i2,e]
   exact jn_self w ls ld zs zd sure v hv
theorem gr_out (h:chkB w ls ld zs zd=0) {v:Int} (hv:-2≤v∧v<ls) (ht:thr ld zd v=false) {k:Nat} (hk:k<(grL w ls ld zs zd sure (ls+2)).length):inN (el1 (grL w ls ld zs zd sure (ls+2)) k) (el2 (grL w ls ld zs zd sure (ls+2)) k) v=false:=by
 obtain ⟨g,g1,g2,g3⟩:=gr_get (sure:=sure) h
 obtain ⟨k1,k2,k3,k4,k5⟩:=g1 k hk
 rw[← k4,← k5]
 cases hx:inN (lstO (jnL w ls ld zs zd sure (g k))) (jnL w ls ld zs zd sure (g k)).length v with
 | false=>rfl
 | true =>
   have hm:=inN_lst.1 hx
   by_cases e:v=g k
   · rw[e,k2] at ht;cases ht
   · rw[jn_thr h k1 hm e] at ht;cases ht
noncomputable def gpI (w:Int) (ls ld:Nat) (zs zd:Nat→Int) (sure:Bool) (v:Int):Nat:=fN (fun i=>inN (el1 (grL w ls ld zs zd sure (ls+2)) i) (el2 (grL w ls ld zs zd sure (ls+2)) i) v) (grL w ls ld zs zd sure (ls+2)).length 0
theorem gpI_ok (h:chkB w ls ld zs zd=0) {v:Int} (hv:-2≤v∧v<ls) (ht:thr ld zd v=true):exN (fun i=>inN (el1 (grL w ls ld zs zd sure (ls+2)) i) (el2 (grL w ls ld zs zd sure (ls+2)) i) v) (grL w ls ld zs zd sure (ls+2)).length=true∧gpI w ls ld zs zd sure v<(grL w ls ld zs zd sure (ls+2)).length∧inN (el1 (grL w ls ld zs zd sure (ls+2)) (gpI w ls ld zs zd sure v)) (el2 (grL w ls ld zs zd sure (ls+2)) (gpI w ls ld zs zd sure v)) v=true:=by
 obtain ⟨i,i1,i2⟩:=gr_in (sure:=sure) h hv ht
 have he:exN (fun i=>inN (el1 (grL w ls ld zs zd sure (ls+2)) i) (el2 (grL w ls ld zs zd sure (ls+2)) i) v) (grL w ls ld zs zd sure (ls+2)).length=true:=(exN_iff _ _).2 ⟨i,i1,by rw[i2 i i1];simp⟩
 have hl:=exN_true he
 obtain ⟨d1,d2,d3,d4⟩:=fN_spec (fun i=>inN (el1 (grL w ls ld zs zd sure (ls+2)) i) (el2 (grL w ls ld zs zd sure (ls+2)) i) v) (grL w ls ld zs zd sure (ls+2)).length 0
 exact ⟨he,hl,d4 (by omega)⟩
theorem gpI_iff (h:chkB w ls ld zs zd=0) {u v:Int} (hu:-2≤u∧u<ls) (hv:-2≤v∧v<ls) (tu:thr ld zd u=true) (tv:thr ld zd v=true):gpI w ls ld zs zd sure u=gpI w ls ld zs zd sure v↔v ∈ jnL w ls ld zs zd sure u:=by
 obtain ⟨g,g1,g2,g3⟩:=gr_get (sure:=sure) h
 obtain ⟨_,a1,a2⟩:=gpI_ok (sure:=sure) h hu tu
 obtain ⟨_,b1,b2⟩:=gpI_ok (sure:=sure) h hv tv
 obtain ⟨i,i1,i2⟩:=gr_in (sure:=sure) h hv tv
 have eB:gpI w ls ld zs zd sure v=i:=by rw[i2 _ b1] at b2;exact of_decide_eq_true b2
 obtain ⟨k1,k2,k3,k4,k5⟩:=g1 _ a1
 have hum:u ∈ jnL w ls ld zs zd sure (g (gpI w ls ld zs zd sure u)):=by rw[← k4,← k5] at a2;exact inN_lst.1 a2
 have e:=jn_same h k1 hum
 rw[eB]
 have:=i2 _ a1
 rw[← k4,← k5] at this
 constructor
 · intro x
   rw[x,decide_eq_true rfl] at this
   rw[e,x];exact inN_lst.1 this
 · intro x
   rw[e] at x
   rw[inN_lst.2 x] at this
   exact of_decide_eq_true this.symm
def cN (z:Nat→Int) (v:Int):Nat→Nat
 | 0=>0
 | m+1=>cN z v m+(if z m=v then 1 else 0)
def mN (f1:Nat→Nat→Int) (f2:Nat→Nat) (v:Int):Nat→Nat
 | 0=>0
 | m+1=>mN f1 f2 v m+cN (f1 m) v (f2 m)
theorem cN_in {z:Nat→Int} {v:Int}:∀ m:Nat,(∀ i k,i<k→k<m→z i<z k)→cN z v m=if inN z m v=true then 1 else 0
 | 0,_=>rfl
 | m + 1,h=>by
   unfold cN
   rw[cN_in m (fun i k a b=>h i k a (by omega))]
   have hi:inN z (m+1) v=true↔inN z m v=true∨z m=v:=by
    unfold inN
    rw[exN_iff,exN_iff]
    constructor
    · rintro ⟨i,a,b⟩
      by_cases x:i=m
      · subst x;exact .inr (of_decide_eq_true b)
      · exact .inl ⟨i,by omega,b⟩
    · rintro (⟨i,a,b⟩ | b)
      · exact ⟨i,by omega,b⟩
      · exact ⟨m,by omega,decide_eq_true b⟩
   by_cases x:z m=v
   · have hn:¬ inN z m v=true:=fun y=>by
      unfold inN at y
      obtain ⟨i,a,b⟩:=(exN_iff _ _).1 y
      have b:=of_decide_eq_true b
      have:=h i m a (by omega)
      omega
     rw[if_neg hn,if_pos x,if_pos (hi.2 (.inr x))]
   · rw[if_neg x]
     by_cases y:inN z m v=true
     · rw[if_pos y,if_pos (hi.2 (.inl y))]
     · rw[if_neg y,if_neg (fun a=>(hi.1 a).elim y x)]
theorem mN_zero {f1:Nat→Nat→Int} {f2:Nat→Nat} {v:Int}:∀ m:Nat,(∀ k,k<m→cN (f1 k) v (f2 k)=0)→mN f1 f2 v m=0
 | 0,_=>rfl
 | m+1,h=>by
   unfold mN
   rw[mN_zero m (fun k hk=>h k (by omega)),h m (by omega)]
theorem mN_one {f1:Nat→Nat→Int} {f2:Nat→Nat} {v:Int} {i:Nat}:∀ m:Nat,i<m→(∀ k,k<m→cN (f1 k) v (f2 k)=if k=i then 1 else 0)→mN f1 f2 v m=1
 | 0,hi,_=>absurd hi (by omega)
 | m+1,hi,h=>by
   unfold mN
   rw[h m (by omega)]
   by_cases e:m=i
   · rw[if_pos e,mN_zero m (fun k hk=>by rw[h k (by omega),if_neg (by omega)])]
   · rw[if_neg e,mN_one m (by omega) (fun k hk=>h k (by omega))]
theorem gr_many (h:chkB w ls ld zs zd=0) {v:Int} (hv:-2≤v∧v<ls):mN (el1 (grL w ls ld zs zd sure (ls+2))) (el2 (grL w ls ld zs zd sure (ls+2))) v (grL w ls ld zs zd sure (ls+2)).length=if thr ld zd v=true then 1 else 0:=by
 obtain ⟨g,g1,g2,g3⟩:=gr_get (sure:=sure) h
 have hc:∀ k,k<(grL w ls ld zs zd sure (ls+2)).length→cN (el1 (grL w ls ld zs zd sure (ls+2)) k) v (el2 (grL w ls ld zs zd sure (ls+2)) k)=if inN (el1 (grL w ls ld zs zd sure (ls+2)) k) (el2 (grL w ls ld zs zd sure (ls+2)) k) v=true then 1 else 0:=fun k hk=>by
  obtain ⟨_,_,_,k4,k5⟩:=g1 k hk
  rw[← k4,← k5]
  exact cN_in _ (fun i j a b=>jn_lt a b)
 cases ht:thr ld zd v with
 | true =>
   rw[if_pos rfl]
   obtain ⟨i,i1,i2⟩:=gr_in (sure:=sure) h hv ht
   refine mN_one _ i1 (fun k hk=>?_)
   rw[hc k hk,i2 k hk]
   by_cases e:k=i<;>simp[e]
 | false =>
   rw[if_neg (by decide)]
   refine mN_zero _ (fun k hk=>?_)
   rw[hc k hk,gr_out h hv ht hk];rfl
end
end Go.Eng
end
