/- Drop: Touch: the program's is the definitions'. -/
import Derived.Test.YtjmjkhpfipglcaaV7DrQx5
import Derived.Test.YtjmjkhpfipglcaaV7DrAx4
section
namespace Go.Eng
open Go.Proofs
set_option linter.unusedVariables false
set_option linter.unusedSimpArgs false
set_option maxRecDepth 100000
section
variable (n:Nat) (w:Int) (ls ld:Nat) (zs zd:Nat→Int) (H:ae) (p q:Int)
theorem Ms:(il (b7 (b7 aG 20 (vB (aa w ls zs ld zd) (bN w ls ld zs zd))) 87 (Du (aa w ls zs ld zd) (bx ls))) (n+3) 1).Ok (cd (n+4)):=by
 refine bQ _ (n+3) 1 (fun k=>bI ?_ (fun args p v hg hp H=>?_))
 · have:=D6 (n+1) w ls ld zs zd k _ (bB _)
   rwa [show n+1+2+k=n+3+k by omega] at this
 · unfold Du at hg
   split at hg
   · simp only[nP] at hg
     obtain ⟨rfl,rfl⟩:=hg
     rw[hp,show n+3+k=n+k+3 by omega]
     exact Md _ w ls ld zs zd H _
   · cases hg
theorem Pj:cd (n+5) (.fn 70) [aa w ls zs ld zd,.int .i64 p,.int .i64 q] H=some (.int .i64 (ij w ls ld zs zd p q),H):=by
 obtain ⟨y,hy1,hy2⟩:∃ y,(aW Try.prog (cd (n+4)) 100000 70 Try.f70 (Kt.kt 70) (il (b7 (b7 aG 20 (vB (aa w ls zs ld zd) (bN w ls ld zs zd))) 87 (Du (aa w ls zs ld zd) (bx ls))) (n+3) 1) aJ aK [(aa w ls zs ld zd,none),(.int .i64 p,none),(.int .i64 q,none)] H).run=some y∧(y.1.1,y.2)=(AV.int .i64 (ij w ls ld zs zd p q),H):=by
  rw[RV,Tr.bc rfl]
  unfold ij
  by_cases h1:bN w ls ld zs zd=0
  · rw[if_neg (fun h=>h h1),Tr.run_ite,cL,aP,decide_eq_true (by rw[h1];rfl),Bool.not_true,cond_false,Tr.bc rfl]
    cases h2:bx ls p
    · rw[Tr.run_ite,cL,Bool.not_false,cond_true]
      refine ⟨_,rfl,?_⟩
      rw[if_neg (by rintro ⟨h,-⟩;cases h)];rfl
    · rw[Tr.run_ite,cL,Bool.not_true,cond_false,Tr.bc rfl]
      cases h3:bx ls q
      · rw[Tr.run_ite,cL,Bool.not_false,cond_true]
        refine ⟨_,rfl,?_⟩
        rw[if_neg (by rintro ⟨-,h,-⟩;cases h)];rfl
      · rw[Tr.run_ite,cL,Bool.not_true,cond_false,Tr.run_ite,aP]
        by_cases h4:p=q
        · rw[decide_eq_true h4]
          refine ⟨_,rfl,?_⟩
          rw[if_neg (fun h=>h.2.2 h4)];rfl
        · rw[decide_eq_false h4]
          refine ⟨_,rfl,?_⟩
          rw[if_pos ⟨rfl,rfl,h4⟩];rfl
  · rw[if_pos h1,Tr.run_ite,cL,aP,decide_eq_false (by simpa using h1),Bool.not_false,cond_true,Tr.bc rfl]
    exact ⟨_,rfl,rfl⟩
 have:=nN (n:=n+4) Try.func70 rfl rfl (args:=[(aa w ls zs ld zd,none),(.int .i64 p,none),(.int .i64 q,none)]) rfl (Ms n w ls ld zs zd) (ah _ _) (ai _ _) hy1
 rw[hy2] at this
 exact this
theorem g7 {w:Int} {ls ld:Nat} {zs zd:Nat→Int} {p q:Int} (h:ij w ls ld zs zd p q=0):bN w ls ld zs zd=0∧bx ls p=true∧bx ls q=true∧p≠q:=by
 unfold ij at h
 by_cases h1:bN w ls ld zs zd=0
 · rw[if_neg (fun h=>h h1)] at h
   by_cases h2:bx ls p=true∧bx ls q=true∧p≠q
   · exact ⟨h1,h2⟩
   · rw[if_neg h2] at h;exact absurd h (by decide)
 · rw[if_pos h1] at h;exact absurd h h1
def K6 (w:Int) (ls ld:Nat) (zs zd:Nat→Int) (p q:Int):Int:=if ij w ls ld zs zd p q≠0 then 0 else jZ w ld zs zd p q
noncomputable def z7 (w:Int) (ls ld:Nat) (zs zd:Nat→Int) (p q:Int):AV:=if ij w ls ld zs zd p q≠0 then .nilp else gu w ls ld zs zd (ft zd ld) (rK w ls zs (ft zd ld) (ls+2))
theorem PQ:cd (n+14) (.fn 68) [aa w ls zs ld zd,.int .i64 p,.int .i64 q] H=some (.tup [z7 w ls ld zs zd p q,.int .i64 (ij w ls ld zs zd p q)],H):=by
 refine gw (n:=n+13) Try.func68 rfl rfl rfl (RU n w ls ld zs zd (ft zd ld) (rK w ls zs (ft zd ld) (ls+2)) H p q (bN w ls ld zs zd) (ls≤10∧ld≤40∧∀ j,j<ld→0≤zd (j*3)∧zd (j*3)<ls)) (bQ _ (n+11) 2 (fun k=>bI (Jg n w ls ld zs zd k _ (bB _)) (fun args p v h hp H=>?_))) (ah _ _) (ai _ _) (y:=((.tup [z7 w ls ld zs zd p q,.int .i64 (ij w ls ld zs zd p q)],none),H)) ?_
 · unfold Lo at h
   split at h
   · simp only[nP] at h
     obtain ⟨rfl,rfl⟩:=h
     obtain ⟨rfl,h1,h2,h3⟩:=hp
     rw[show n+11+k=n+3+k+8 by omega]
     exact Pk _ w ls ld zs zd H h1 h2 h3
   · cases h
 · rw [Tr.bc rfl]
   by_cases e:bN w ls ld zs zd=0
   · have hc := eY e
     have e0:Int.negSucc 1=-2:=rfl
     have eE:ij w ls ld zs zd p q=if bx ls p=true∧bx ls q=true∧p≠q then 0 else 2:=by unfold ij;rw[if_neg (fun h=>h e)]
     rw[Tr.run_ite,cL,aP,decide_eq_true (by rw[e];rfl),Bool.not_true,cond_false,Tr.bc ⟨rfl,hc⟩,Tr.run_ite,cL,aP,decide_eq_true rfl,Bool.not_true,cond_false]
     have no:¬ (bx ls p=true∧bx ls q=true∧p≠q)→(.tup [z7 w ls ld zs zd p q,.int .i64 (ij w ls ld zs zd p q)]:AV)=.tup [.nilp,.int .i64 2]:=fun h=>by
      unfold z7
      rw[eE,if_neg h];rfl
     by_cases h1:-2≤p
     · by_cases h2:p<(ls:Int)
       · by_cases h3:-2≤q
         · by_cases h4:q<(ls:Int)
           · by_cases h5:p=q
             · rw[no (fun h=>h.2.2 h5)]
               simp (disch:=omega) only[nX,nS,aP,e0]
               rfl
             · have ey:bx ls p=true∧bx ls q=true∧p≠q:=⟨by simp[bx,h1,h2],by simp[bx,h3,h4],h5⟩
               unfold z7
               rw[eE,if_pos ey,if_neg (by simp)]
               simp (disch:=omega) only[nX,nS,aP,e0]
               rfl
           · rw[no (fun h=>by simp[bx,h4] at h)]
             simp (disch:=omega) only[nX,nS,aP,e0]
             rfl
         · rw[no (fun h=>by simp[bx,h3] at h)]
           simp (disch:=omega) only[nX,nS,aP,e0]
           rfl
       · rw[no (fun h=>by simp[bx,h2] at h)]
         simp (disch:=omega) only[nX,nS,aP,e0]
         rfl
     · rw[no (fun h=>by simp[bx,h1] at h)]
       simp (disch:=omega) only[nX,nS,aP,e0]
       rfl
   · have eE:ij w ls ld zs zd p q=bN w ls ld zs zd:=by unfold ij;rw[if_pos e]
     unfold z7
     rw[eE,if_pos e]
     simp only[Tr.run_ite,cL,aP]
     rw[decide_eq_false (show ¬ bN w ls ld zs zd=Int.ofNat 0 from e),Bool.not_false,cond_true,cond_true]
     rfl
end
theorem Pm {n:Nat} {t:lR} (ht:t.Ok (cd (n+1))):(b7 t 16 Ej).Ok (cd (n+1)):=by
 refine bI ht (fun args p v hg hp H=>?_)
 unfold Ej at hg
 split at hg
 · simp only[nP] at hg
   obtain ⟨_,rfl⟩:=hg
   exact PH _ H
 · cases hg
end Go.Eng
end
section
namespace Go.Eng
open Go.Proofs
set_option linter.unusedVariables false
set_option linter.unusedSimpArgs false
set_option maxRecDepth 100000
def Jy (B:AV) (side:Int→Int→Prop) (kr:Int→Int→Int):List AV→Option (Prop×AV)
 | [b,.int .i64 p,.int .i64 q]=>some (b=B∧side p q,.int .i64 (kr p q))
 | _=>none
def El (B:AV) (sure:Bool) (side:Int→Int→Prop) (hl:Int→Int→Bool):List AV→Option (Prop×AV)
 | [b,.int .i64 p,.int .i64 q,.bool s]=>some (b=B∧side p q∧s=sure,.bool (hl p q))
 | _=>none
theorem RZ (n:Nat) (w:Int) (ls ld:Nat) (zs zd:Nat→Int) (H:ae) (p q:Int) (sure:Bool) (side:Int→Int→Prop) (kr:Int→Int→Int):aW Try.prog (cd (n+5)) 100000 82 Try.f82 (Kt.kt 82) (il (b7 aG 71 (Jy (aa w ls zs ld zd) side kr)) (n+5) 0) aJ aK [(aa w ls zs ld zd,none),(.int .i64 p,none),(.int .i64 q,none),(.bool sure,none)] H =
 Tr.reqP (aa w ls zs ld zd=aa w ls zs ld zd∧side p q) (Tr.ite (aF (kr p q) (Int.ofNat 2)) (Tr.ok ((AV.bool true,some 1),H)) (Tr.ite (aD sure) (Tr.reqP (aa w ls zs ld zd=aa w ls zs ld zd∧side p q) (Tr.ok ((AV.bool (aF (kr p q) (Int.ofNat 1)),none),H))) (Tr.ok ((AV.bool false,some 1),H)))):=by kernel_rfl
def dx (w:Int) (ld:Nat) (zs zd:Nat→Int) (sure:Bool) (p q:Int):Bool:=decide ((if sure then 2 else 1)≤jZ w ld zs zd p q)
section
variable (n:Nat) (w:Int) (ls ld:Nat) (zs zd:Nat→Int) (H:ae) (sure:Bool)
theorem L9 (p q:Int) (hK:xX ls ld zs zd p q):cd (n+6) (.fn 82) [aa w ls zs ld zd,.int .i64 p,.int .i64 q,.bool sure] H=some (.bool (dx w ld zs zd sure p q),H):=by
 refine bp (n:=n+5) Try.func82 rfl rfl rfl (RZ n w ls ld zs zd H p q sure (xX ls ld zs zd) (jZ w ld zs zd)) (bQ _ (n+5) 0 (fun k=>bI (bB _) (fun args p v hg hp H=>?_))) (ah _ _) (ai _ _) ?_
 · unfold Jy at hg
   split at hg
   · simp only[nP] at hg
     obtain ⟨rfl,rfl⟩:=hg
     obtain ⟨rfl,hp⟩:=hp
     rw[show n+5+k=n+k+5 by omega]
     exact PR _ w ls ld zs zd H _ _ hp
   · cases hg
 · have h1:0≤jZ w ld zs zd p q∧jZ w ld zs zd p q≤2:=by
    unfold jZ;split
    · omega
    · split<;>omega
   unfold dx
   repeat' first | (refine Tr.an (fun hc=>?_) (fun hc=>?_)<;>(try simp (disch:=omega) only[nV,nW,hK,and_true] at hc)<;>try omega) | (refine Tr.ao ?_ ?_;· (try simp (disch:=omega) only[nV,nW,hK,and_true]);try omega) | (refine Tr.ak ?_ ?_;· first | exact trivial | rfl | exact ⟨rfl,rfl⟩ | exact ⟨rfl,rfl,rfl⟩ | (simp (disch:=omega) only[nV,nW,hK,and_true];done) | ((try simp (disch:=omega) only[nV,nW,hK,and_true]);omega)) | fail
   all_goals refine Tr.aq ⟨?_,rfl⟩
   all_goals (cases sure<;>simp_all [aP]<;>omega)
def Cl (z:Nat→Int) (s:Int) (hl:Int→Int→Bool) (i k:Nat):Bool:=decide (k≠i) && (decide (z k=s) && hl ((i:Int)-2) ((k:Int)-2))
def H6 (z:Nat→Int) (s:Int) (hl:Int→Int→Bool) (N i:Nat):Int:=if z i=0∧bD (Cl z s hl i) N=true then s+1 else z i
def tj (z:Nat→Int) (s:Int) (hl:Int→Int→Bool) (N i:Nat):Int:=if i<N then H6 z s hl N i else z i
theorem uE {n f nt:Nat} {c:Code} (id:Nat) (F:Nat→aO) (G:Nat→ae) (N:Nat) (Y:aO×ae) (hN:N<99999)
 (hs:∀ j,j<N→∃ x,exec (bF n f nt) c (F j) (G j)=some x∧(x.1=.normal∧tidy (bm (G 0)) x.2.1 x.2.2=(F (j+1),G (j+1))))
 (he:exec (bF n f nt) c (F N) (G N)=some (.exit id,Y)):exec (bF n f nt) (.block id (.loop c)) (F 0) (G 0)=some (.normal,Y):=by
 have:=gV id F G N (fun _=>false) (fun _=>Y) Y hN (fun j hj=>by
  obtain ⟨x,h1,h2⟩:=hs j hj
  exact ⟨x,h1,by rw[if_neg (by simp)];exact h2⟩) he
 have h0:bD (fun _=>false) N=false:=by
  cases h:bD (fun _=>false) N with
  | false=>rfl
  | true=>obtain ⟨i,_,h2⟩:=(bV _ _).1 h;cases h2
 rw[h0] at this
 exact this
def Dz (z0:Nat→Int) (hl:Int→Int→Bool) (N:Nat):Nat→Nat→Int
 | 0=>z0
 | j+1=>tj (Dz z0 hl N j) ((j:Int)+1) hl N
def yH (to:Int) (i:Nat):Int:=if (i:Int)=to+2 then 1 else 0
noncomputable def ea (w:Int) (ls ld:Nat) (zs zd:Nat→Int) (sure:Bool) (to:Int):Nat→Int:=Dz (yH to) (dx w ld zs zd sure) (ls+2) (ls+1)
end
end Go.Eng
end
section
namespace Go.Eng
open Go.Proofs
set_option linter.unusedVariables false
set_option linter.unusedSimpArgs false
set_option maxRecDepth 100000
noncomputable def bn (m:Nat) (z:Nat→Int) (full:Bool):AV:=.slcT none (.M [.arr .i64 z m]) 1 m full
noncomputable def AQ (m:Nat) (z:Nat→Int) (full:Bool) (p j:Int):aO:=[(0,bn m z full),(1,.int .i64 p),(5,.int .i64 j)]
noncomputable def Sd (B:AV) (to:Int) (sure:Bool) (T:AV):List AV→Option (Prop×AV)
 | [b,.int .i64 p,.bool s]=>some (b=B∧p=to∧s=sure,T)
 | _=>none
def zy (f:(Nat→Int)→Nat→Int→Bool):List AV→Option (Prop×AV)
 | [.slcT none (.M [.arr .i64 z N]) 1 m full,.int .i64 p]=>some (N=m∧cB m 1000=true,.bool (f z m p))
 | _=>none
theorem t90 (n:Nat) (H:ae) (m:Nat) (z:Nat→Int) (full:Bool) (p j:Int):aH (bF n 90 18) (il aG n 0) aJ aK (part Try.f90 [1,0,1,0,0]) (hints (AQ m z full p j)) (af::H) =
 Tr.ite (bA j (Int.ofNat m)) (Tr.req (br j m) (Tr.req (bt (al 0 j 1) m) (Tr.ite (aF (z (al 0 j 1)) p) (Tr.ok (Ex.ret,[(4,AV.bool true,some 1)],af::H)) (Tr.ok (Ex.normal,[(0,AV.slcT none (Row.M [aC.arr .i64 z m]) 1 m full,none),(1,AV.int .i64 p,none),(5,AV.int .i64 (ay .i64 j (Int.ofNat 1)),none)],af::H))))) (Tr.ok (Ex.exit 0,[(0,AV.slcT none (Row.M [aC.arr .i64 z m]) 1 m full,none),(1,AV.int .i64 p,none),(5,AV.int .i64 j,none),(9,AV.bool false,some 1)],af::H)):=by kernel_rfl
theorem R3 (n:Nat) (H:ae) (m:Nat) (z:Nat→Int) (full:Bool) (p:Int) (e:Bool):aW Try.prog (cd n) 100000 90 Try.f90 (Kt.kt 90) (il aG n 0) (dc aJ 0 (AQ m z full p 0) (af::H) (.ite e (.ok (.ret,[(4,.bool true,none)],af::H)) (.ok (.normal,hints (AQ m z full p (Int.ofNat m)++[(9,.bool false)]),af::H)))) aK [(bn m z full,none),(.int .i64 p,none)] H =
 (fun (Z0:aO)=>Tr.reqP (Z0=Z0∧af::H=af::H) (Tr.ite e (Tr.ok ((AV.bool true,none),H)) (Tr.ok ((AV.bool false,some 1),H)))) [(0,AV.slcT none (Row.M [aC.arr .i64 z m]) 1 m full),(1,AV.int .i64 p),(5,AV.int .i64 (Int.ofNat 0))]:=by kernel_rfl
def iA (z:Nat→Int) (m:Nat) (p:Int):Bool:=bD (fun j=>decide (z j=p)) m
theorem PD:∀ b,(0,b) ∈ av (aL Try.f90)→b=.loop (part Try.f90 [1,0,1,0,0]):=by
 have:((av (aL Try.f90)).filter fun x=>Nat.beq x.1 0)=[(0,.loop (part Try.f90 [1,0,1,0,0]))]:=by kernel_rfl
 intro b hb
 have hm:(0,b) ∈ ((av (aL Try.f90)).filter fun x=>Nat.beq x.1 0):=List.mem_filter.2 ⟨hb,rfl⟩
 rw[this] at hm;simpa using hm
theorem Pl (n:Nat) (H:ae) (m:Nat) (z:Nat→Int) (full:Bool) (p:Int) (hm:m≤1000):cd (n+1) (.fn 90) [bn m z full,.int .i64 p] H=some (.bool (iA z m p),H):=by
 have l:=gV (n:=n) (f:=90) (nt:=18) (c:=part Try.f90 [1,0,1,0,0]) 0 (fun j=>AQ m z full p (j:Int)) (fun _=>af::H) m (fun j=>decide (z j=p)) (fun j=>([(4,.bool true)],af::H)) (AQ m z full p (Int.ofNat m)++[(9,.bool false)],af::H) (by omega) (fun j hj=>?_) ?_
 · refine bp (n:=n) Try.func90 rfl rfl rfl (R3 n H m z full p (iA z m p)) (bk n) (bf (ah _ _) PD (fun x hx=>?_)) (ai _ _) ?_
   · refine Eq.trans l ?_
     rcases Tr.bH hx with ⟨hc,hx⟩ | ⟨hc,hx⟩
     · rw[← Tr.ab hx,show bD (fun j=>decide (z j=p)) m=true from hc];rfl
     · rw[← Tr.ab hx,show bD (fun j=>decide (z j=p)) m=false from hc];simp only[dg.st,aw];rfl
   · repeat' first | (refine Tr.an (fun hc=>?_) (fun hc=>?_)<;>(try simp (disch:=omega) only[nV,nW] at hc)<;>try omega) | (refine Tr.ao ?_ ?_;· (try simp (disch:=omega) only[nV,nW]);try omega) | (refine Tr.ak ?_ ?_;· first | exact trivial | rfl | exact ⟨rfl,rfl⟩ | exact ⟨rfl,rfl,rfl⟩ | (simp (disch:=omega) only[nV,nW];done) | ((try simp (disch:=omega) only[nV,nW]);omega)) | fail
     · refine Tr.aq ⟨?_,rfl⟩;rw[hc]
     · refine Tr.aq ⟨?_,rfl⟩;rw[hc]
 · have ej:ay .i64 (j:Int) (Int.ofNat 1)=((j+1:Nat):Int):=by rw[aR,show Int.ofNat 1=1 from rfl];exact bX (by omega) (by omega)
   refine bz (t90 n H m z full p (j:Int)) (bk n) (ah _ _) (ai _ _) ?_
   repeat' first | (refine Tr.an (fun hc=>?_) (fun hc=>?_)<;>(try simp (disch:=omega) only[nV,nW,Nat.mul_one] at hc)<;>try omega) | (refine Tr.ao ?_ ?_;· (try simp (disch:=omega) only[nV,nW,Nat.mul_one]);try omega) | (refine Tr.ak ?_ ?_;· first | exact trivial | rfl | exact ⟨rfl,rfl⟩ | exact ⟨rfl,rfl,rfl⟩ | (simp (disch:=omega) only[nV,nW,Nat.mul_one];done) | ((try simp (disch:=omega) only[nV,nW,Nat.mul_one]);omega)) | fail
   all_goals refine Tr.aq ?_
   · rw[if_pos (by simpa using hc)];rfl
   · rw[if_neg (by simpa using hc)]
     refine ⟨rfl,?_⟩
     rw[ej];rfl
 · obtain ⟨x,h1,rfl⟩:=bz (Q:=fun x=>x=(.exit 0,AQ m z full p (Int.ofNat m)++[(9,.bool false)],af::H)) (t90 n H m z full p (Int.ofNat m)) (bk n) (ah _ _) (ai _ _) (by
    repeat' first | (refine Tr.an (fun hc=>?_) (fun hc=>?_)<;>(try simp (disch:=omega) only[nV,nW] at hc)<;>try omega) | (refine Tr.ao ?_ ?_;· (try simp (disch:=omega) only[nV,nW]);try omega) | (refine Tr.ak ?_ ?_;· first | exact trivial | rfl | exact ⟨rfl,rfl⟩ | exact ⟨rfl,rfl,rfl⟩ | (simp (disch:=omega) only[nV,nW];done) | ((try simp (disch:=omega) only[nV,nW]);omega)) | fail
    exact Tr.aq rfl)
   exact h1
def HK (f:Nat→Bool) (N:Nat):List Int:=((List.range N).filter f).map fun (i:Nat)=>(i:Int)-2
theorem uP (L:List Int) (v:Int):qe (nv (bE L) 0) L.length (bE [v])=bE (L++[v]):=by
 rw[hJ,qm,gL];funext i
 by_cases h:i<L.length
 · simp[h,List.getElem?_append]
 · by_cases h2:i=L.length
   · subst h2;simp
   · have e1:[v][i-L.length]?=none:=List.getElem?_eq_none (by simp;omega)
     have e2:(L++[v])[i]?=none:=List.getElem?_eq_none (by simp;omega)
     simp only[h,if_false,List.getD_eq_getElem?_getD,e1,e2]
section
variable (n:Nat) (w:Int) (ls ld:Nat) (zs zd:Nat→Int) (H:ae) (sure:Bool)
noncomputable def qj (w:Int) (ls ld:Nat) (zs zd:Nat→Int) (sure:Bool) (p:Int):List Int:=HK (fun i=>decide (0<ea w ls ld zs zd sure p i)) (ls+2)
theorem z6 {f:Nat→Bool} {N:Nat} {q:Int}:q ∈ HK f N↔∃ i:Nat,i<N∧f i=true∧q=(i:Int)-2:=by
 unfold HK
 rw[List.mem_map]
 constructor
 · rintro ⟨i,h1,rfl⟩
   have:=List.mem_filter.1 h1
   exact ⟨i,by simpa using this.1,this.2,rfl⟩
 · rintro ⟨i,h1,h2,rfl⟩
   exact ⟨i,List.mem_filter.2 ⟨by simpa using h1,h2⟩,rfl⟩
theorem Ff (f:Nat→Bool) (N:Nat):(HK f N).length≤N:=by
 unfold HK;rw[List.length_map];exact Nat.le_trans (List.length_filter_le _ _) (by simp)
end
end Go.Eng
end
section
namespace Go.Eng
open Go.Proofs
set_option linter.unusedVariables false
set_option linter.unusedSimpArgs false
set_option maxRecDepth 100000
section
variable (n:Nat) (w:Int) (ls ld:Nat) (zs zd:Nat→Int) (H:ae) (sure:Bool)
end
section
variable (n:Nat) (H:ae)
end
end Go.Eng
end
section
namespace Go.Eng
open Go.Proofs
set_option linter.unusedVariables false
set_option linter.unusedSimpArgs false
set_option maxRecDepth 100000
noncomputable def nU (p q:Int) (m:Nat) (z:Nat→Int) (full sure:Bool) (j:Int):aO:=[(1,.int .i64 p),(2,.int .i64 q),(3,bn m z full),(4,.bool sure),(5,.ptr 0 0 0 0),(11,.int .i64 j)]
noncomputable def nY (m:Nat) (z:Nat→Int) (full sure:Bool) (j:Int):aO:=[(3,bn m z full),(4,.bool sure),(5,.ptr 0 0 0 0),(12,.int .i64 j)]
noncomputable def pH (m:Nat) (z:Nat→Int) (full sure:Bool) (j k:Int):aO:=[(3,bn m z full),(4,.bool sure),(5,.ptr 0 0 0 0),(12,.int .i64 j),(13,.int .i64 k)]
theorem KS (n:Nat) (w:Int) (ls ld m:Nat) (zs zd z:Nat→Int) (H:ae) (p q j:Int) (sure full:Bool) (pl:Int→Bool):aH (bF (n+7) 40 88) (il (b7 aG 87 (Du (aa w ls zs ld zd) pl)) (n+7) 0) aJ aK (part Try.f40 [1,1,0,1,0,0]) (hints (nU p q m z full sure j)) (a6 w ls ld zs zd::H) =
 (fun (Z0:a8)=>Tr.ite (bA j (Int.ofNat m)) (Tr.req (br j m) (Tr.req (bt (al 0 j 1) m) (Tr.reqP (aa w ls zs ld zd=aa w ls zs ld zd) (Tr.ite (aD (pl (z (al 0 j 1)))) (Tr.ok (Ex.ret,[(10,AV.int .i64 (Int.ofNat 3),some 1)],a6 w ls ld zs zd::H)) (Tr.ite (bA (Int.ofNat 0) j) (Tr.req (br j m) (Tr.req (bt (al 0 j 1) m) (Tr.req (br (az .i64 j (Int.ofNat 1)) m) (Tr.req (bt (al 0 (az .i64 j (Int.ofNat 1)) 1) m) (Tr.ite (dA (z (al 0 j 1)) (z (al 0 (az .i64 j (Int.ofNat 1)) 1))) (Tr.ok (Ex.ret,[(10,AV.int .i64 (Int.ofNat 3),some 1)],a6 w ls ld zs zd::H)) (Tr.ok (Ex.normal,Z0,a6 w ls ld zs zd::H))))))) (Tr.ok (Ex.normal,Z0,a6 w ls ld zs zd::H))))))) (Tr.ok (Ex.exit 0,[(1,AV.int .i64 p,none),(2,AV.int .i64 q,none),(3,AV.slcT none (Row.M [aC.arr .i64 z m]) 1 m full,none),(4,AV.bool sure,none),(5,AV.ptr 0 0 0 0,none),(11,AV.int .i64 j,none),(26,AV.bool false,some 1)],a6 w ls ld zs zd::H))) [(1,AV.int .i64 p,none),(2,AV.int .i64 q,none),(3,AV.slcT none (Row.M [aC.arr .i64 z m]) 1 m full,none),(4,AV.bool sure,none),(5,AV.ptr 0 0 0 0,none),(11,AV.int .i64 (ay .i64 j (Int.ofNat 1)),none)]:=by kernel_rfl
theorem KV (n:Nat) (w:Int) (ls ld m:Nat) (zs zd z:Nat→Int) (H:ae) (j k:Int) (sure full:Bool) (f:(Nat→Int)→Nat→Int→Bool) (side:Int→Int→Prop) (hl:Int→Int→Bool):aH (bF (n+7) 40 88) (il (b7 (b7 aG 90 (zy f)) 82 (El (aa w ls zs ld zd) sure side hl)) (n+7) 0) aJ aK (part Try.f40 [1,1,1,1,0,1,0,0,1,0,0,1,0,0]) (hints (pH m z full sure j k)) (a6 w ls ld zs zd::H) =
 (fun (Z0:a8)=>Tr.ite (bA k (Int.ofNat ls)) (Tr.reqP (m=m∧cB m 1000=true) (Tr.ite (aD (f z m k)) (Tr.req (br j m) (Tr.req (bt (al 0 j 1) m) (Tr.reqP (aa w ls zs ld zd=aa w ls zs ld zd∧side (z (al 0 j 1)) k∧sure=sure) (Tr.ite (hl (z (al 0 j 1)) k) (Tr.ok (Ex.ret,[(10,AV.int .i64 (Int.ofNat 14),some 1)],a6 w ls ld zs zd::H)) (Tr.ok (Ex.normal,Z0,a6 w ls ld zs zd::H)))))) (Tr.ok (Ex.normal,Z0,a6 w ls ld zs zd::H)))) (Tr.ok (Ex.exit 4,[(3,AV.slcT none (Row.M [aC.arr .i64 z m]) 1 m full,none),(4,AV.bool sure,none),(5,AV.ptr 0 0 0 0,none),(12,AV.int .i64 j,none),(13,AV.int .i64 k,none),(71,AV.bool false,some 1)],a6 w ls ld zs zd::H))) [(3,AV.slcT none (Row.M [aC.arr .i64 z m]) 1 m full,none),(4,AV.bool sure,none),(5,AV.ptr 0 0 0 0,none),(12,AV.int .i64 j,none),(13,AV.int .i64 (ay .i64 k (Int.ofNat 1)),none)]:=by kernel_rfl
theorem Oa (n:Nat) (w:Int) (ls ld m:Nat) (zs zd z:Nat→Int) (H:ae) (j:Int) (sure full e:Bool):aH (bF (n+7) 40 88) (il aG (n+7) 0) (dc aJ 4 (pH m z full sure j (-2)) (a6 w ls ld zs zd::H) (.ite e (.ok (.ret,[(10,.int .i64 14,none)],a6 w ls ld zs zd::H)) (.ok (.normal,hints (pH m z full sure j (Int.ofNat ls)++[(71,.bool false)]),a6 w ls ld zs zd::H)))) aK (part Try.f40 [1,1,1,1,0,1,0,0]) (hints (nY m z full sure j)) (a6 w ls ld zs zd::H) =
 (fun (Z0:aO)=>Tr.ite (bA j (Int.ofNat m)) (Tr.reqP (Z0=Z0∧a6 w ls ld zs zd::H=a6 w ls ld zs zd::H) (Tr.ite e (Tr.ok (Ex.ret,[(10,AV.int .i64 (Int.ofNat 14),none)],a6 w ls ld zs zd::H)) (Tr.ok (Ex.normal,[(3,AV.slcT none (Row.M [aC.arr .i64 z m]) 1 m full,none),(4,AV.bool sure,none),(5,AV.ptr 0 0 0 0,none),(12,AV.int .i64 (ay .i64 j (Int.ofNat 1)),none)],a6 w ls ld zs zd::H)))) (Tr.ok (Ex.exit 2,[(3,AV.slcT none (Row.M [aC.arr .i64 z m]) 1 m full,none),(4,AV.bool sure,none),(5,AV.ptr 0 0 0 0,none),(12,AV.int .i64 j,none),(64,AV.bool false,some 1)],a6 w ls ld zs zd::H))) [(3,AV.slcT none (Row.M [aC.arr .i64 z m]) 1 m full),(4,AV.bool sure),(5,AV.ptr 0 0 0 0),(12,AV.int .i64 j),(13,AV.int .i64 (Int.negSucc 1))]:=by kernel_rfl
theorem KU (n:Nat) (w:Int) (ls ld m:Nat) (zs zd z:Nat→Int) (H:ae) (j:Int) (sure full:Bool):aH (bF (n+7) 40 88) (il aG (n+7) 0) (fY aJ 4) aK (part Try.f40 [1,1,1,1,0,1,0,0]) (hints (nY m z full sure j)) (a6 w ls ld zs zd::H) =
 Tr.ite (bA j (Int.ofNat m)) Tr.bad (Tr.ok (Ex.exit 2,[(3,AV.slcT none (Row.M [aC.arr .i64 z m]) 1 m full,none),(4,AV.bool sure,none),(5,AV.ptr 0 0 0 0,none),(12,AV.int .i64 j,none),(64,AV.bool false,some 1)],a6 w ls ld zs zd::H)):=by kernel_rfl
theorem RQ (n:Nat) (w:Int) (ls ld m:Nat) (zs zd z:Nat→Int) (H:ae) (p q e:Int) (sure full q1 q2:Bool) (f:(Nat→Int)→Nat→Int→Bool):aW Try.prog (cd (n+7)) 100000 40 Try.f40 (Kt.kt 40) (il (b7 (b7 aG 70 (Gc (aa w ls zs ld zd) p q e)) 90 (zy f)) (n+7) 0) (dc (dc aJ 2 (nY m z full sure 0) (a6 w ls ld zs zd::H) (.ite q2 (.ok (.ret,[(10,.int .i64 14,none)],a6 w ls ld zs zd::H)) (.ok (.normal,hints (nY m z full sure (Int.ofNat m)++[(64,.bool false)]),a6 w ls ld zs zd::H)))) 0 (nU p q m z full sure 0) (a6 w ls ld zs zd::H) (.ite q1 (.ok (.ret,[(10,.int .i64 3,none)],a6 w ls ld zs zd::H)) (.ok (.normal,hints (nU p q m z full sure (Int.ofNat m)++[(26,.bool false)]),a6 w ls ld zs zd::H)))) aK [(aa w ls zs ld zd,none),(.int .i64 p,none),(.int .i64 q,none),(bn m z full,none),(.bool sure,none)] H =
 (fun (Z0:aO)=>((fun (Z1:aO)=>Tr.reqP (aa w ls zs ld zd=aa w ls zs ld zd∧p=p∧q=q) (Tr.ite (aD (aF e (Int.ofNat 0))) (Tr.reqP (aa w ls zs ld zd=aa w ls zs ld zd∧p=p∧q=q) (Tr.ok ((AV.int .i64 e,none),H))) (Tr.reqP (Z0=Z0∧a6 w ls ld zs zd::H=a6 w ls ld zs zd::H) (Tr.ite q1 (Tr.ok ((AV.int .i64 (Int.ofNat 3),none),H)) (Tr.reqP (m=m∧cB m 1000=true) (Tr.ite (aD (f z m p)) (Tr.ok ((AV.int .i64 (Int.ofNat 14),some 1),H)) (Tr.reqP (m=m∧cB m 1000=true) (Tr.ite (f z m q) (Tr.ok ((AV.int .i64 (Int.ofNat 14),some 1),H)) (Tr.reqP (Z1=Z1∧a6 w ls ld zs zd::H=a6 w ls ld zs zd::H) (Tr.ite q2 (Tr.ok ((AV.int .i64 (Int.ofNat 14),none),H)) (Tr.ok ((AV.int .i64 (Int.ofNat 0),some 1),H)))))))))))) [(3,AV.slcT none (Row.M [aC.arr .i64 z m]) 1 m full),(4,AV.bool sure),(5,AV.ptr 0 0 0 0),(12,AV.int .i64 (Int.ofNat 0))])) [(1,AV.int .i64 p),(2,AV.int .i64 q),(3,AV.slcT none (Row.M [aC.arr .i64 z m]) 1 m full),(4,AV.bool sure),(5,AV.ptr 0 0 0 0),(11,AV.int .i64 (Int.ofNat 0))]:=by kernel_rfl
theorem OO (n:Nat) (w:Int) (ls ld m:Nat) (zs zd z:Nat→Int) (H:ae) (p q e:Int) (sure full:Bool):aW Try.prog (cd (n+7)) 100000 40 Try.f40 (Kt.kt 40) (il (b7 aG 70 (Gc (aa w ls zs ld zd) p q e)) (n+7) 0) (dc aJ 0 (nU p q m z full sure 0) (a6 w ls ld zs zd::H) (.ok (.ret,[(10,.int .i64 3,none)],a6 w ls ld zs zd::H))) aK [(aa w ls zs ld zd,none),(.int .i64 p,none),(.int .i64 q,none),(bn m z full,none),(.bool sure,none)] H =
 (fun (Z0:aO)=>Tr.reqP (aa w ls zs ld zd=aa w ls zs ld zd∧p=p∧q=q) (Tr.ite (aD (aF e (Int.ofNat 0))) (Tr.reqP (aa w ls zs ld zd=aa w ls zs ld zd∧p=p∧q=q) (Tr.ok ((AV.int .i64 e,none),H))) (Tr.reqP (Z0=Z0∧a6 w ls ld zs zd::H=a6 w ls ld zs zd::H) (Tr.ok ((AV.int .i64 (Int.ofNat 3),none),H))))) [(1,AV.int .i64 p),(2,AV.int .i64 q),(3,AV.slcT none (Row.M [aC.arr .i64 z m]) 1 m full),(4,AV.bool sure),(5,AV.ptr 0 0 0 0),(11,AV.int .i64 (Int.ofNat 0))]:=by kernel_rfl
theorem OP (n:Nat) (w:Int) (ls ld m:Nat) (zs zd z:Nat→Int) (H:ae) (p q e:Int) (sure full:Bool):aW Try.prog (cd (n+7)) 100000 40 Try.f40 (Kt.kt 40) (il (b7 aG 70 (Gc (aa w ls zs ld zd) p q e)) (n+7) 0) (fY aJ 0) aK [(aa w ls zs ld zd,none),(.int .i64 p,none),(.int .i64 q,none),(bn m z full,none),(.bool sure,none)] H =
 Tr.reqP (aa w ls zs ld zd=aa w ls zs ld zd∧p=p∧q=q) (Tr.ite (aD (aF e (Int.ofNat 0))) (Tr.reqP (aa w ls zs ld zd=aa w ls zs ld zd∧p=p∧q=q) (Tr.ok ((AV.int .i64 e,none),H))) Tr.bad):=by kernel_rfl
def sl (ls:Nat) (z:Nat→Int) (j:Nat):Bool:=!bx ls (z j) || (decide (0<j) && decide (z j≤z (j-1)))
def Gm (z:Nat→Int) (m:Nat) (hl:Int→Int→Bool) (i k:Nat):Bool:=!iA z m ((k:Int)-2) && hl (z i) ((k:Int)-2)
def Dy (ls:Nat) (z:Nat→Int) (m:Nat) (hl:Int→Int→Bool) (i:Nat):Bool:=bD (Gm z m hl i) (ls+2)
def AK (w:Int) (ls ld:Nat) (zs zd:Nat→Int) (sure:Bool) (p q:Int) (m:Nat) (z:Nat→Int):Int :=
 if ij w ls ld zs zd p q≠0 then ij w ls ld zs zd p q
 else if bD (sl ls z) m=true then 3
 else if iA z m p=false then 14
 else if iA z m q=true then 14
 else if bD (Dy ls z m (dx w ld zs zd sure)) m=true then 14 else 0
section
variable (n:Nat) (w:Int) (ls ld m:Nat) (zs zd z:Nat→Int) (H:ae) (p q:Int) (sure full:Bool)
theorem Pc:((av (aL Try.f40)).filter fun x=>Nat.beq x.1 0 || Nat.beq x.1 2)=[(0,.loop (part Try.f40 [1,1,0,1,0,0])),(2,.loop (part Try.f40 [1,1,1,1,0,1,0,0]))]:=by kernel_rfl
theorem IX:∀ b,(0,b) ∈ av (aL Try.f40)→b=.loop (part Try.f40 [1,1,0,1,0,0]):=by
 intro b hb
 have hm:(0,b) ∈ ((av (aL Try.f40)).filter fun x=>Nat.beq x.1 0 || Nat.beq x.1 2):=List.mem_filter.2 ⟨hb,rfl⟩
 rw[Pc] at hm;simpa using hm
theorem LL:∀ b,(2,b) ∈ av (aL Try.f40)→b=.loop (part Try.f40 [1,1,1,1,0,1,0,0]):=by
 intro b hb
 have hm:(2,b) ∈ ((av (aL Try.f40)).filter fun x=>Nat.beq x.1 0 || Nat.beq x.1 2):=List.mem_filter.2 ⟨hb,rfl⟩
 rw[Pc] at hm;simpa using hm
theorem IY:((av (part Try.f40 [1,1,1,1,0,1,0,0])).filter fun x=>Nat.beq x.1 4)=[(4,.loop (part Try.f40 [1,1,1,1,0,1,0,0,1,0,0,1,0,0]))]:=by kernel_rfl
theorem LM:∀ b,(4,b) ∈ av (part Try.f40 [1,1,1,1,0,1,0,0])→b=.loop (part Try.f40 [1,1,1,1,0,1,0,0,1,0,0,1,0,0]):=by
 intro b hb
 have hm:(4,b) ∈ ((av (part Try.f40 [1,1,1,1,0,1,0,0])).filter fun x=>Nat.beq x.1 4):=List.mem_filter.2 ⟨hb,rfl⟩
 rw[IY] at hm;simpa using hm
theorem JG:(il (b7 aG 87 (Du (aa w ls zs ld zd) (bx ls))) (n+7) 0).Ok (cd (n+7)):=by
 refine bQ _ (n+7) 0 (fun k=>bI (bB _) (fun args p v hg hp H=>?_))
 unfold Du at hg
 split at hg
 · simp only[nP] at hg
   obtain ⟨rfl,rfl⟩:=hg
   subst hp
   rw[show n+7+k=n+4+k+3 by omega]
   exact Md _ w ls ld zs zd H _
 · cases hg
theorem NF (hm:m≤1000):exec (bF (n+7) 40 88) (.block 0 (.loop (part Try.f40 [1,1,0,1,0,0]))) (nU p q m z full sure 0) (a6 w ls ld zs zd::H)=some (cond (bD (sl ls z) m) (.ret,[(10,.int .i64 3)],a6 w ls ld zs zd::H) (.normal,nU p q m z full sure (Int.ofNat m)++[(26,.bool false)],a6 w ls ld zs zd::H)):=by
 refine gV (n:=n+7) (f:=40) (nt:=88) (c:=part Try.f40 [1,1,0,1,0,0]) 0 (fun j=>nU p q m z full sure (j:Int)) (fun _=>a6 w ls ld zs zd::H) m (sl ls z) (fun _=>([(10,.int .i64 3)],a6 w ls ld zs zd::H)) (nU p q m z full sure (Int.ofNat m)++[(26,.bool false)],a6 w ls ld zs zd::H) (by omega) (fun j hj=>?_) ?_
 · have ej:ay .i64 (j:Int) (Int.ofNat 1)=((j+1:Nat):Int):=by rw[aR,show Int.ofNat 1=1 from rfl];exact bX (by omega) (by omega)
   have es:az .i64 (j:Int) (Int.ofNat 1)=(j:Int)-1:=by rw[aQ,show Int.ofNat 1=1 from rfl];exact bX (by omega) (by omega)
   have et:((j:Int)-1).toNat=j-1:=by omega
   refine bz (KS n w ls ld m zs zd z H p q (j:Int) sure full (bx ls)) (JG n w ls ld zs zd) (ah _ _) (ai _ _) ?_
   · have hs:sl ls z j=(!bx ls (z j) || (decide (0<j) && decide (z j≤z (j-1)))):=rfl
     rw[es]
     generalize bx ls=pl at *
     repeat' first | (refine Tr.an (fun hc=>?_) (fun hc=>?_)<;>(try simp (disch:=omega) only[nV,nW,Nat.mul_one,et] at hc)<;>try omega) | (refine Tr.ao ?_ ?_;· (try simp (disch:=omega) only[nV,nW,Nat.mul_one,et]);try omega) | (refine Tr.ak ?_ ?_;· first | exact trivial | rfl | exact ⟨rfl,rfl⟩ | exact ⟨rfl,rfl,rfl⟩ | (simp (disch:=omega) only[nV,nW,Nat.mul_one,et];done) | ((try simp (disch:=omega) only[nV,nW,Nat.mul_one,et]);omega)) | fail
     all_goals refine Tr.aq ?_
     all_goals first
      | (rw[if_pos (by rw[hs];simp_all;done)];rfl)
      | (rw[if_pos (by rw[hs];simp_all;omega)];rfl)
      | (rw[if_neg (by rw[hs];simp_all;done)];exact ⟨rfl,by rw[ej];rfl⟩)
      | (rw[if_neg (by rw[hs];simp_all;omega)];exact ⟨rfl,by rw[ej];rfl⟩)
      | fail
 · obtain ⟨x,h1,rfl⟩:=bz (Q:=fun x=>x=(.exit 0,nU p q m z full sure (Int.ofNat m)++[(26,.bool false)],a6 w ls ld zs zd::H)) (KS n w ls ld m zs zd z H p q (Int.ofNat m) sure full (bx ls)) (JG n w ls ld zs zd) (ah _ _) (ai _ _) (by
    repeat' first | (refine Tr.an (fun hc=>?_) (fun hc=>?_)<;>(try simp (disch:=omega) only[nV,nW] at hc)<;>try omega) | (refine Tr.ao ?_ ?_;· (try simp (disch:=omega) only[nV,nW]);try omega) | (refine Tr.ak ?_ ?_;· first | exact trivial | rfl | exact ⟨rfl,rfl⟩ | exact ⟨rfl,rfl,rfl⟩ | (simp (disch:=omega) only[nV,nW];done) | ((try simp (disch:=omega) only[nV,nW]);omega)) | fail
    exact Tr.aq rfl)
   exact h1
theorem Gf (h:bN w ls ld zs zd=0):(il (b7 (b7 aG 90 (zy iA)) 82 (El (aa w ls zs ld zd) sure (fun p q=>bx ls p=true∧bx ls q=true) (dx w ld zs zd sure))) (n+7) 0).Ok (cd (n+7)):=by
 refine bQ _ (n+7) 0 (fun k=>bI (bI (bB _) (fun args p v hg hp H=>?_)) (fun args p v hg hp H=>?_))
 · unfold zy at hg
   split at hg
   · simp only[nP] at hg
     obtain ⟨rfl,rfl⟩:=hg
     obtain ⟨rfl,hp⟩:=hp
     rw[eB,decide_eq_true_eq] at hp
     rw[show n+7+k=n+6+k+1 by omega]
     exact Pl _ H _ _ _ _ hp
   · cases hg
 · unfold El at hg
   split at hg
   · simp only[nP] at hg
     obtain ⟨rfl,rfl⟩:=hg
     obtain ⟨rfl,hp,rfl⟩:=hp
     rw[show n+7+k=n+1+k+6 by omega]
     exact L9 _ w ls ld zs zd H _ _ _ (pc h hp.1 hp.2)
   · cases hg
theorem NH (h:bN w ls ld zs zd=0) (hm:m≤1000) (i:Nat) (hi:i<m) (hz:bx ls (z i)=true):exec (bF (n+7) 40 88) (.block 4 (.loop (part Try.f40 [1,1,1,1,0,1,0,0,1,0,0,1,0,0]))) (pH m z full sure i (-2)) (a6 w ls ld zs zd::H)=some (cond (Dy ls z m (dx w ld zs zd sure) i) (.ret,[(10,.int .i64 14)],a6 w ls ld zs zd::H) (.normal,pH m z full sure i (Int.ofNat ls)++[(71,.bool false)],a6 w ls ld zs zd::H)):=by
 have c:=iL h
 have:=gV (n:=n+7) (f:=40) (nt:=88) (c:=part Try.f40 [1,1,1,1,0,1,0,0,1,0,0,1,0,0]) 4 (fun k=>pH m z full sure i ((k:Int)-2)) (fun _=>a6 w ls ld zs zd::H) (ls+2) (Gm z m (dx w ld zs zd sure) i) (fun _=>([(10,.int .i64 14)],a6 w ls ld zs zd::H)) (pH m z full sure i (Int.ofNat ls)++[(71,.bool false)],a6 w ls ld zs zd::H) (by omega) (fun k hk=>?_) ?_
 · exact this
 · have ej:ay .i64 ((k:Int)-2) (Int.ofNat 1)=((k+1:Nat):Int)-2:=by
    rw[aR,show Int.ofNat 1=1 from rfl,bX (by omega) (by omega)];omega
   have q4:bx ls ((k:Int)-2)=true:=by simp[bx];omega
   have hs:Gm z m (dx w ld zs zd sure) i k=(!iA z m ((k:Int)-2) && dx w ld zs zd sure (z i) ((k:Int)-2)):=rfl
   refine bz (KV n w ls ld m zs zd z H (i:Int) ((k:Int)-2) sure full iA (fun p q=>bx ls p=true∧bx ls q=true) (dx w ld zs zd sure)) (Gf n w ls ld zs zd sure h) (ah _ _) (ai _ _) ?_
   repeat' first | (refine Tr.an (fun hc=>?_) (fun hc=>?_)<;>(try simp (disch:=omega) only[nV,nW,Nat.mul_one,hz,q4,and_true] at hc)<;>try omega) | (refine Tr.ao ?_ ?_;· (try simp (disch:=omega) only[nV,nW,Nat.mul_one,hz,q4,and_true]);try omega) | (refine Tr.ak ?_ ?_;· first | exact trivial | rfl | exact ⟨rfl,rfl⟩ | exact ⟨rfl,rfl,rfl⟩ | (simp (disch:=omega) only[nV,nW,Nat.mul_one,hz,q4,and_true];done) | ((try simp (disch:=omega) only[nV,nW,Nat.mul_one,hz,q4,and_true]);omega)) | fail
   all_goals refine Tr.aq ?_
   all_goals first
    | (rw[if_pos (by rw[hs];simp_all;done)];rfl)
    | (rw[if_neg (by rw[hs];simp_all;done)];exact ⟨rfl,by rw[ej];rfl⟩)
    | fail
 · have em:((ls+2:Nat):Int)-2=Int.ofNat ls:=by rw[da];omega
   rw[em]
   obtain ⟨x,h1,rfl⟩:=bz (Q:=fun x=>x=(.exit 4,pH m z full sure i (Int.ofNat ls)++[(71,.bool false)],a6 w ls ld zs zd::H)) (KV n w ls ld m zs zd z H (i:Int) (Int.ofNat ls) sure full iA (fun p q=>bx ls p=true∧bx ls q=true) (dx w ld zs zd sure)) (Gf n w ls ld zs zd sure h) (ah _ _) (ai _ _) (by
    repeat' first | (refine Tr.an (fun hc=>?_) (fun hc=>?_)<;>(try simp (disch:=omega) only[nV,nW] at hc)<;>try omega) | (refine Tr.ao ?_ ?_;· (try simp (disch:=omega) only[nV,nW]);try omega) | (refine Tr.ak ?_ ?_;· first | exact trivial | rfl | exact ⟨rfl,rfl⟩ | exact ⟨rfl,rfl,rfl⟩ | (simp (disch:=omega) only[nV,nW];done) | ((try simp (disch:=omega) only[nV,nW]);omega)) | fail
    exact Tr.aq rfl)
   exact h1
theorem NG (h:bN w ls ld zs zd=0) (hm:m≤1000) (hz:∀ i,i<m→bx ls (z i)=true):exec (bF (n+7) 40 88) (.block 2 (.loop (part Try.f40 [1,1,1,1,0,1,0,0]))) (nY m z full sure 0) (a6 w ls ld zs zd::H)=some (cond (bD (Dy ls z m (dx w ld zs zd sure)) m) (.ret,[(10,.int .i64 14)],a6 w ls ld zs zd::H) (.normal,nY m z full sure (Int.ofNat m)++[(64,.bool false)],a6 w ls ld zs zd::H)):=by
 refine gV (n:=n+7) (f:=40) (nt:=88) (c:=part Try.f40 [1,1,1,1,0,1,0,0]) 2 (fun j=>nY m z full sure (j:Int)) (fun _=>a6 w ls ld zs zd::H) m (Dy ls z m (dx w ld zs zd sure)) (fun _=>([(10,.int .i64 14)],a6 w ls ld zs zd::H)) (nY m z full sure (Int.ofNat m)++[(64,.bool false)],a6 w ls ld zs zd::H) (by omega) (fun j hj=>?_) ?_
 · have ej:ay .i64 (j:Int) (Int.ofNat 1)=((j+1:Nat):Int):=by rw[aR,show Int.ofNat 1=1 from rfl];exact bX (by omega) (by omega)
   have lk:=NH n w ls ld m zs zd z H sure full h hm j hj (hz j hj)
   refine bz (Oa n w ls ld m zs zd z H (j:Int) sure full (Dy ls z m (dx w ld zs zd sure) j)) (bU (n+7) 0) (bf (ah _ _) LM (fun x hx=>?_)) (ai _ _) ?_
   · refine Eq.trans lk ?_
     rcases Tr.bH hx with ⟨hc,hx⟩ | ⟨hc,hx⟩
     · rw[← Tr.ab hx,hc];rfl
     · rw[← Tr.ab hx,hc];simp only[dg.st,aw];rfl
   · repeat' first | (refine Tr.an (fun hc=>?_) (fun hc=>?_)<;>(try simp (disch:=omega) only[nV,nW] at hc)<;>try omega) | (refine Tr.ao ?_ ?_;· (try simp (disch:=omega) only[nV,nW]);try omega) | (refine Tr.ak ?_ ?_;· first | exact trivial | rfl | exact ⟨rfl,rfl⟩ | exact ⟨rfl,rfl,rfl⟩ | (simp (disch:=omega) only[nV,nW];done) | ((try simp (disch:=omega) only[nV,nW]);omega)) | fail
     all_goals refine Tr.aq ?_
     · rw[if_pos hc];rfl
     · rw[if_neg (by rw[hc];simp)];exact ⟨rfl,by rw[ej];rfl⟩
 · obtain ⟨x,h1,rfl⟩:=bz (Q:=fun x=>x=(.exit 2,nY m z full sure (Int.ofNat m)++[(64,.bool false)],a6 w ls ld zs zd::H)) (KU n w ls ld m zs zd z H (Int.ofNat m) sure full) (bU (n+7) 0) (cN (ah _ _) 4) (ai _ _) (by
    repeat' first | (refine Tr.an (fun hc=>?_) (fun hc=>?_)<;>(try simp (disch:=omega) only[nV,nW] at hc)<;>try omega) | (refine Tr.ao ?_ ?_;· (try simp (disch:=omega) only[nV,nW]);try omega) | (refine Tr.ak ?_ ?_;· first | exact trivial | rfl | exact ⟨rfl,rfl⟩ | exact ⟨rfl,rfl,rfl⟩ | (simp (disch:=omega) only[nV,nW];done) | ((try simp (disch:=omega) only[nV,nW]);omega)) | fail
    exact Tr.aq rfl)
   exact h1
theorem PM (hm:m≤1000):cd (n+8) (.fn 40) [aa w ls zs ld zd,.int .i64 p,.int .i64 q,bn m z full,.bool sure] H=some (.int .i64 (AK w ls ld zs zd sure p q m z),H):=by
 have i70:∀ (t:lR),(∀ k,t.Ok (cd (n+7+k)))→(il t (n+7) 0).Ok (cd (n+7)):=fun t ht=>bQ _ (n+7) 0 ht
 have ct70:∀ k,(b7 aG 70 (Gc (aa w ls zs ld zd) p q (ij w ls ld zs zd p q))).Ok (cd (n+7+k)):=fun k=>bI (bB _) (fun args p v hg hp H=>by
  unfold Gc at hg
  split at hg
  · simp only[nP] at hg
    obtain ⟨rfl,rfl⟩:=hg
    obtain ⟨rfl,rfl,rfl⟩:=hp
    rw[show n+7+k=n+2+k+5 by omega]
    exact Pj _ w ls ld zs zd H _ _
  · cases hg)
 by_cases he:ij w ls ld zs zd p q=0
 · obtain ⟨h,h1,h2,h3⟩:=g7 he
   have lk:=NF n w ls ld m zs zd z H p q sure full hm
   have l2:bD (sl ls z) m=false→_:=fun hx=>NG n w ls ld m zs zd z H sure full h hm (fun i hi=>by
    cases hq:bx ls (z i) with
    | true=>rfl
    | false =>
      have:=(bV (sl ls z) m).2 ⟨i,hi,by unfold sl;rw[hq];rfl⟩
      rw[this] at hx;cases hx)
   have hiT:(il (b7 (b7 aG 70 (Gc (aa w ls zs ld zd) p q (ij w ls ld zs zd p q))) 90 (zy iA)) (n+7) 0).Ok (cd (n+7)):=i70 _ (fun k=>bI (ct70 k) (fun args p v hg hp H=>by
    unfold zy at hg
    split at hg
    · simp only[nP] at hg
      obtain ⟨rfl,rfl⟩:=hg
      obtain ⟨rfl,hp⟩:=hp
      rw[eB,decide_eq_true_eq] at hp
      rw[show n+7+k=n+6+k+1 by omega]
      exact Pl _ H _ _ _ _ hp
    · cases hg))
   cases hx:bD (sl ls z) m with
   | true =>
     rw[hx] at lk
     refine bp (n:=n+7) Try.func40 rfl rfl rfl (OO n w ls ld m zs zd z H p q (ij w ls ld zs zd p q) sure full) (i70 _ ct70) (bf (ah _ _) IX (fun x hx=>by rw[← Tr.ab hx];exact lk)) (ai _ _) ?_
     unfold AK
     rw[he,if_neg (by simp),if_pos hx]
     repeat' first | (refine Tr.an (fun hc=>?_) (fun hc=>?_)<;>(try simp (disch:=omega) only[nV,nW] at hc)<;>try omega) | (refine Tr.ao ?_ ?_;· (try simp (disch:=omega) only[nV,nW]);try omega) | (refine Tr.ak ?_ ?_;· first | exact trivial | rfl | exact ⟨rfl,rfl⟩ | exact ⟨rfl,rfl,rfl⟩ | (simp (disch:=omega) only[nV,nW];done) | ((try simp (disch:=omega) only[nV,nW]);omega)) | fail
     exact Tr.aq ⟨rfl,rfl⟩
   | false =>
     rw[hx] at lk
     have l2:=l2 hx
     refine bp (n:=n+7) Try.func40 rfl rfl rfl (RQ n w ls ld m zs zd z H p q (ij w ls ld zs zd p q) sure full false (bD (Dy ls z m (dx w ld zs zd sure)) m) iA) hiT (bf (bf (ah _ _) LL (fun x hx=>?_)) IX (fun x hx=>?_)) (ai _ _) ?_
     · refine Eq.trans l2 ?_
       rcases Tr.bH hx with ⟨hc,hx⟩ | ⟨hc,hx⟩
       · rw[← Tr.ab hx,hc];rfl
       · rw[← Tr.ab hx,hc];simp only[dg.st,aw];rfl
     · refine Eq.trans lk ?_
       rcases Tr.bH hx with ⟨hc,hx⟩ | ⟨hc,hx⟩
       · cases hc
       · rw[← Tr.ab hx];simp only[dg.st,aw];rfl
     · unfold AK
       rw[he,if_neg (by simp),if_neg (by rw[hx];simp)]
       repeat' first | (refine Tr.an (fun hc=>?_) (fun hc=>?_)<;>(try simp (disch:=omega) only[nV,nW] at hc)<;>try omega) | (refine Tr.ao ?_ ?_;· (try simp (disch:=omega) only[nV,nW]);try omega) | (refine Tr.ak ?_ ?_;· first | exact trivial | rfl | exact ⟨rfl,rfl⟩ | exact ⟨rfl,rfl,rfl⟩ | (simp (disch:=omega) only[nV,nW];done) | ((try simp (disch:=omega) only[nV,nW]);omega)) | fail
       all_goals refine Tr.aq ⟨?_,rfl⟩
       all_goals first
        | (simp_all;done)
        | (simp_all;rfl)
        | fail
 · refine bp (n:=n+7) Try.func40 rfl rfl rfl (OP n w ls ld m zs zd z H p q (ij w ls ld zs zd p q) sure full) (i70 _ ct70) (cN (ah _ _) 0) (ai _ _) ?_
   unfold AK
   rw[if_pos he]
   repeat' first | (refine Tr.an (fun hc=>?_) (fun hc=>?_)<;>(try simp (disch:=omega) only[nV,nW] at hc)<;>try omega) | (refine Tr.ao ?_ ?_;· (try simp (disch:=omega) only[nV,nW]);try omega) | (refine Tr.ak ?_ ?_;· first | exact trivial | rfl | exact ⟨rfl,rfl⟩ | exact ⟨rfl,rfl,rfl⟩ | (simp (disch:=omega) only[nV,nW];done) | ((try simp (disch:=omega) only[nV,nW]);omega)) | fail
   exact Tr.aq ⟨rfl,rfl⟩
end
end Go.Eng
end
section
namespace Go.Eng
open Go.Proofs
set_option linter.unusedVariables false
set_option linter.unusedSimpArgs false
set_option maxRecDepth 100000
section
variable (n:Nat) (w k p q:Int) (ls ld:Nat) (zs zd:Nat→Int) (H:ae)
end
end Go.Eng
end
section
namespace Go.Eng
open Go.Proofs
set_option linter.unusedVariables false
set_option linter.unusedSimpArgs false
set_option maxRecDepth 100000
section
variable (n:Nat) (w:Int) (ls ld:Nat) (zs zd:Nat→Int) (H:ae) (p q:Int)
end
end Go.Eng
end
section
namespace Go.Eng
open Go.Proofs
set_option linter.unusedVariables false
set_option linter.unusedSimpArgs false
set_option maxRecDepth 100000
noncomputable def a9 (k:Nat) (w:Int) (ls ld:Nat) (zs zd sz kd:Nat→Int):AV:=.ptrT (some k) (.M [.one (.int .i64 w),.one (aU 2 ls zs),.one (aU 3 ld zd),.one (.slcT none (.M [.arr .i64 sz (aI ls 2)]) 2 ls true),.arr .i64 kd 144]) 0
section
variable (n:Nat) (w:Int) (ls ld:Nat) (zs zd sz kd:Nat→Int) (H:ae) (s more:Int)
end
end Go.Eng
end
