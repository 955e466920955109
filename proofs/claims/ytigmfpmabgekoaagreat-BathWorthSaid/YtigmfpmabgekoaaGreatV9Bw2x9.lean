/- Bath: the law BathWorth. -/
import Derived.Test.YtigmfpmabgekoaaGreatV9Bv5x4
import Derived.Test.YtigmfpmabgekoaaGreatV9Bak0x6
import Derived.Test.YtigmfpmabgekoaaGreatV9EngPostx6
import Derived.Test.YtigmfpmabgekoaaGreatRows
import Derived.Test.YtigmfpmabgekoaaGreatChecked
import Derived.ProofKit
import Derived.OpenShut
set_option linter.unusedVariables false
set_option linter.unusedSimpArgs false
set_option maxRecDepth 100000
section
namespace Go.Eng
open Go.Proofs
theorem R8:Tryz.f9.body=some (chain [part Tryz.f9 [0],part Tryz.f9 [1,0],part Tryz.f9 [1,1,0],part Tryz.f9 [1,1,1,0],part Tryz.f9 [1,1,1,1,0],part Tryz.f9 [1,1,1,1,1,0],part Tryz.f9 [1,1,1,1,1,1,0],part Tryz.f9 [1,1,1,1,1,1,1,0],part Tryz.f9 [1,1,1,1,1,1,1,1,0],part Tryz.f9 [1,1,1,1,1,1,1,1,1,0],part Tryz.f9 [1,1,1,1,1,1,1,1,1,1,0],part Tryz.f9 [1,1,1,1,1,1,1,1,1,1,1,0],part Tryz.f9 [1,1,1,1,1,1,1,1,1,1,1,1,0],part Tryz.f9 [1,1,1,1,1,1,1,1,1,1,1,1,1,0],part Tryz.f9 [1,1,1,1,1,1,1,1,1,1,1,1,1,1,0],part Tryz.f9 [1,1,1,1,1,1,1,1,1,1,1,1,1,1,1,0],part Tryz.f9 [1,1,1,1,1,1,1,1,1,1,1,1,1,1,1,1]]):=by kernel_rfl
theorem TU:Tryz.f9.ntmps=240:=by kernel_rfl
theorem Qi (H:aa) (l:bx):Lm Tryz.f9 H [(10,.bool true)] l=some (.bool true,H):=by kernel_rfl
theorem pD {c f:Nat} {t:l9} {A:List AV} {V:AV} (ht:t.Ok (cd c)) (h:∀ k1 k2 b1 b2,cd c (.fn f) A [⟨k1,b1⟩,⟨k2,b2⟩]=some (V,[⟨k1,b1⟩,⟨k2,b2⟩])):(dI t f (AP A V)).Ok (cd c):=by
 refine gh ht (fun args H x hx=>?_)
 unfold AP at hx
 split at hx
 · obtain ⟨rfl,h2⟩:=Tr.cW hx
   rw[← Tr.ab h2]
   exact h _ _ _ _
 · exact (Tr.ae hx).elim
theorem Mx {q:Int} (h:0≤q∧q≤255):oE .i64 (Bz .i64 q) (Int.ofNat 13)=q % 13∧0≤q % 13∧q % 13≤12:=by
 rw[K4 (by omega) (by omega),Ic h.1]
 show q % 13=_∧_
 omega
section
variable (n l kb kp:Nat) (z b pp:Nat→Int) (w pr:Int)
theorem Uc (H:aa) (hf:xl l z=false∨14<kb∨20<kp):∃ lv,exec (bu (n+16) 9 240) (chain [part Tryz.f9 [0],part Tryz.f9 [1,0]]) [(0,ay 5 l z),(1,.int .u8 w),(2,bc kb b false),(3,.int .i64 pr),(4,bc kp pp false)] (an::H)=some (.ret,[(10,.bool true)],lv::H):=by
 have h41:=fun H=>Rm (n+11) l z H
 obtain ⟨x,h1,lv,rfl⟩:=aE (Q:=fun x=>∃ lv,x=(.ret,[(10,.bool true)],lv::H)) (Rx (n+16) l kb kp z b pp w pr (xl l z) H) (cg _ _ (bZ (Ou (by omega) (aO _)) h41)) (af _ _) (ag _ _) (by
  cases hh:xl l z with
  | true =>
    have hf:14<kb∨20<kp:=by
     rcases hf with hf | hf
     · rw[hh] at hf;cases hf
     · exact hf
    repeat' first | (refine Tr.al (fun hc=>?_) (fun hc=>?_)<;>(try simp (disch:=omega) only[nV,nW] at hc)<;>(try (exfalso;omega))) | (refine Tr.bj ?_ ?_;· ((try simp (disch:=omega) only[nV,nW]);try omega)) | (refine Tr.aB ?_ ?_;· first | exact trivial | rfl | exact ⟨rfl,rfl⟩ | exact ⟨trivial,rfl⟩ | exact ⟨rfl,by assumption⟩ | exact ⟨trivial,by assumption⟩ | exact ⟨rfl,rfl,rfl⟩ | (simp (disch:=omega) only[nV,nW];done) | ((try simp (disch:=omega) only[nV,nW]);omega)) | fail
    all_goals first
     | exact Tr.ao ⟨_,rfl⟩
     | omega
     | fail
  | false =>
    repeat' first | (refine Tr.al (fun hc=>?_) (fun hc=>?_)<;>(try simp (disch:=omega) only[nV,nW] at hc)<;>(try (exfalso;omega))) | (refine Tr.bj ?_ ?_;· ((try simp (disch:=omega) only[nV,nW]);try omega)) | (refine Tr.aB ?_ ?_;· first | exact trivial | rfl | exact ⟨rfl,rfl⟩ | exact ⟨trivial,rfl⟩ | exact ⟨rfl,by assumption⟩ | exact ⟨trivial,by assumption⟩ | exact ⟨rfl,rfl,rfl⟩ | (simp (disch:=omega) only[nV,nW];done) | ((try simp (disch:=omega) only[nV,nW]);omega)) | fail
    all_goals first
     | exact Tr.ao ⟨_,rfl⟩
     | fail)
 exact ⟨lv,h1⟩
theorem Ua (H:aa) (hf:xl l z=true) (h1:kb≤14) (h2:kp≤20):exec (bu (n+16) 9 240) (chain [part Tryz.f9 [0],part Tryz.f9 [1,0]]) [(0,ay 5 l z),(1,.int .u8 w),(2,bc kb b false),(3,.int .i64 pr),(4,bc kp pp false)] (an::H)=some (.normal,[(0,ay 5 l z),(1,.int .u8 w),(2,bc kb b false),(3,.int .i64 pr),(4,bc kp pp false),(47,.bool false)],an::H):=by
 have h41:=fun H=>Rm (n+11) l z H
 rw[hf] at h41
 obtain ⟨x,h1,rfl⟩:=aE (Q:=fun x=>x=(.normal,[(0,ay 5 l z),(1,.int .u8 w),(2,bc kb b false),(3,.int .i64 pr),(4,bc kp pp false),(47,.bool false)],an::H)) (Rx (n+16) l kb kp z b pp w pr true H) (cg _ _ (bZ (Ou (by omega) (aO _)) h41)) (af _ _) (ag _ _) (by
  exact wF)
 exact h1
theorem Qn {nb:Nat} {B:Nat→Int} {p:Nat→Int} {fl:Bool} {K M lam:Int} (hK:oE .i64 (Bz .i64 w) (Int.ofNat 13)=K) (hK0:0≤K) (hnb:(nb:Int)≤K) 
 (h36:∀ k1 k2 b1 b2,cd (n+16) (.fn 36) [ay 5 l z,.int .i64 K] [⟨k1,b1⟩,⟨k2,b2⟩]=some (.tup [.int .i64 M,bc nb B false,.int .i64 0],[⟨k1,b1⟩,⟨k2,b2⟩]))
 (h43:∀ k1 k2 b1 b2,cd (n+16) (.fn 43) [ay 5 l z,.int .i64 K] [⟨k1,b1⟩,⟨k2,b2⟩]=some (.tup [.int .i64 lam,bc l p fl,.int .i64 0],[⟨k1,b1⟩,⟨k2,b2⟩])) :
 exec (bu (n+16) 9 240) (chain [part Tryz.f9 [1,1,0],part Tryz.f9 [1,1,1,0],part Tryz.f9 [1,1,1,1,0],part Tryz.f9 [1,1,1,1,1,0]]) [(0,ay 5 l z),(1,.int .u8 w),(2,bc kb b false),(3,.int .i64 pr),(4,bc kp pp false),(47,.bool false)] [an,⟨true,[]⟩]=some (.normal,[(0,ay 5 l z),(2,bc kb b false),(3,.int .i64 pr),(4,bc kp pp false),(11,.int .i64 K),(12,.int .i64 M),(13,bc nb B false),(15,.int .i64 lam),(16,bc l p fl),(77,.bool false)],[an,⟨true,[]⟩]):=by
 obtain ⟨q,q1,rfl⟩:=aE (Q:=fun q=>q=(.normal,[(0,ay 5 l z),(2,bc kb b false),(3,.int .i64 pr),(4,bc kp pp false),(11,.int .i64 K),(12,.int .i64 M),(13,bc nb B false),(15,.int .i64 lam),(16,bc l p fl),(77,.bool false)],[an,⟨true,[]⟩])) (P6 (n+16) l kb kp z b pp nb B p fl w pr K M lam) (cg _ _ (pD (pD (aO _) h36) h43)) (af _ _) (ag _ _) (by
  rw[hK]
  clear h36 h43 hK
  exact wF)
 exact q1
theorem Qp {nb:Nat} {B:Nat→Int} {p:Nat→Int} {fl:Bool} {K M lam:Int} (H:aa)
 (h27:∀ H,cd (n+16) (.fn 27) [ay 5 l z,bc nb B false] H=some (.tup [.int .i64 M,.int .i64 0],H))
 (h44:∀ H,cd (n+16) (.fn 44) [ay 5 l z,.int .i64 K,.int .i64 lam,bc l p fl] H=some (.tup [.int .i64 M,.int .i64 0],H))
 (h45:∀ H,cd (n+16) (.fn 45) [ay 5 l z,.int .i64 K,.int .i64 lam,bc l p fl] H=some (.tup [.int .i64 M,.int .i64 0],H))
 (h39:∀ H,cd (n+16) (.fn 39) [ay 5 l z,bc nb B false] H=some (.int .i64 M,H)) :
 exec (bu (n+16) 9 240) (chain [part Tryz.f9 [1,1,1,1,1,1,0],part Tryz.f9 [1,1,1,1,1,1,1,0],part Tryz.f9 [1,1,1,1,1,1,1,1,0],part Tryz.f9 [1,1,1,1,1,1,1,1,1,0]]) [(0,ay 5 l z),(2,bc kb b false),(3,.int .i64 pr),(4,bc kp pp false),(11,.int .i64 K),(12,.int .i64 M),(13,bc nb B false),(15,.int .i64 lam),(16,bc l p fl),(77,.bool false)] (an::H)=some (.normal,[(0,ay 5 l z),(2,bc kb b false),(3,.int .i64 pr),(4,bc kp pp false),(11,.int .i64 K),(12,.int .i64 M),(131,.bool false)],an::H):=by
 obtain ⟨q,q1,rfl⟩:=aE (Q:=fun q=>q=(.normal,[(0,ay 5 l z),(2,bc kb b false),(3,.int .i64 pr),(4,bc kp pp false),(11,.int .i64 K),(12,.int .i64 M),(131,.bool false)],an::H)) (P8 (n+16) l kb kp z b pp nb B p fl pr K M lam M M H) (cg _ _ (bZ (bZ (bZ (bZ (aO _) h27) h44) h45) h39)) (af _ _) (ag _ _) (by
  clear h27 h44 h45 h39
  exact wF)
 exact q1
theorem Qo {p:Nat→Int} {fl:Bool} {K M lam:Int} (hK:oE .i64 (Bz .i64 w) (Int.ofNat 13)=K) (hK0:0≤K) 
 (h36:∀ k1 k2 b1 b2,cd (n+16) (.fn 36) [ay 5 l z,.int .i64 K] [⟨k1,b1⟩,⟨k2,b2⟩]=some (.tup [.int .i64 M,.nils,.int .i64 0],[⟨k1,b1⟩,⟨k2,b2⟩]))
 (h43:∀ k1 k2 b1 b2,cd (n+16) (.fn 43) [ay 5 l z,.int .i64 K] [⟨k1,b1⟩,⟨k2,b2⟩]=some (.tup [.int .i64 lam,bc l p fl,.int .i64 0],[⟨k1,b1⟩,⟨k2,b2⟩])) :
 exec (bu (n+16) 9 240) (chain [part Tryz.f9 [1,1,0],part Tryz.f9 [1,1,1,0],part Tryz.f9 [1,1,1,1,0],part Tryz.f9 [1,1,1,1,1,0]]) [(0,ay 5 l z),(1,.int .u8 w),(2,bc kb b false),(3,.int .i64 pr),(4,bc kp pp false),(47,.bool false)] [an,⟨true,[]⟩]=some (.normal,[(0,ay 5 l z),(2,bc kb b false),(3,.int .i64 pr),(4,bc kp pp false),(11,.int .i64 K),(12,.int .i64 M),(13,.nils),(15,.int .i64 lam),(16,bc l p fl),(77,.bool false)],[an,⟨true,[]⟩]):=by
 obtain ⟨q,q1,rfl⟩:=aE (Q:=fun q=>q=(.normal,[(0,ay 5 l z),(2,bc kb b false),(3,.int .i64 pr),(4,bc kp pp false),(11,.int .i64 K),(12,.int .i64 M),(13,.nils),(15,.int .i64 lam),(16,bc l p fl),(77,.bool false)],[an,⟨true,[]⟩])) (P7 (n+16) l kb kp z b pp p fl w pr K M lam) (cg _ _ (pD (pD (aO _) h36) h43)) (af _ _) (ag _ _) (by
  rw[hK]
  clear h36 h43 hK
  exact wF)
 exact q1
theorem Qq {p:Nat→Int} {fl:Bool} {K M lam:Int} (H:aa)
 (h27:∀ H,cd (n+16) (.fn 27) [ay 5 l z,.nils] H=some (.tup [.int .i64 M,.int .i64 0],H))
 (h44:∀ H,cd (n+16) (.fn 44) [ay 5 l z,.int .i64 K,.int .i64 lam,bc l p fl] H=some (.tup [.int .i64 M,.int .i64 0],H))
 (h45:∀ H,cd (n+16) (.fn 45) [ay 5 l z,.int .i64 K,.int .i64 lam,bc l p fl] H=some (.tup [.int .i64 M,.int .i64 0],H))
 (h39:∀ H,cd (n+16) (.fn 39) [ay 5 l z,.nils] H=some (.int .i64 M,H)) :
 exec (bu (n+16) 9 240) (chain [part Tryz.f9 [1,1,1,1,1,1,0],part Tryz.f9 [1,1,1,1,1,1,1,0],part Tryz.f9 [1,1,1,1,1,1,1,1,0],part Tryz.f9 [1,1,1,1,1,1,1,1,1,0]]) [(0,ay 5 l z),(2,bc kb b false),(3,.int .i64 pr),(4,bc kp pp false),(11,.int .i64 K),(12,.int .i64 M),(13,.nils),(15,.int .i64 lam),(16,bc l p fl),(77,.bool false)] (an::H)=some (.normal,[(0,ay 5 l z),(2,bc kb b false),(3,.int .i64 pr),(4,bc kp pp false),(11,.int .i64 K),(12,.int .i64 M),(131,.bool false)],an::H):=by
 obtain ⟨q,q1,rfl⟩:=aE (Q:=fun q=>q=(.normal,[(0,ay 5 l z),(2,bc kb b false),(3,.int .i64 pr),(4,bc kp pp false),(11,.int .i64 K),(12,.int .i64 M),(131,.bool false)],an::H)) (P9 (n+16) l kb kp z b pp p fl pr K M lam M M H) (cg _ _ (bZ (bZ (bZ (bZ (aO _) h27) h44) h45) h39)) (af _ _) (ag _ _) (by
  clear h27 h44 h45 h39
  exact wF)
 exact q1
theorem Rz {K M:Int} {own e6 bo e8:Int} (h:bD l z=0) (hkb:kb≤14)
 (h27:∀ H,cd (n+16) (.fn 27) [ay 5 l z,bc kb b false] H=some (.tup [.int .i64 own,.int .i64 e6],H))
 (h44:∀ H,cd (n+16) (.fn 44) [ay 5 l z,.int .i64 (Int.ofNat kb),.int .i64 pr,bc kp pp false] H=some (.tup [.int .i64 bo,.int .i64 e8],H))
 (g1:e6=0→own≤(mX l z kb).1) (g2:e6=0→e8=0→own≤bo) (g3:e8=0→(mX l z kb).1≤bo) :
 exec (bu (n+16) 9 240) (chain [part Tryz.f9 [1,1,1,1,1,1,1,1,1,1,0],part Tryz.f9 [1,1,1,1,1,1,1,1,1,1,1,0],part Tryz.f9 [1,1,1,1,1,1,1,1,1,1,1,1,0],part Tryz.f9 [1,1,1,1,1,1,1,1,1,1,1,1,1,0]]) [(0,ay 5 l z),(2,bc kb b false),(3,.int .i64 pr),(4,bc kp pp false),(11,.int .i64 K),(12,.int .i64 M),(131,.bool false)] [an,⟨true,[]⟩]=some (.normal,[(0,ay 5 l z),(11,.int .i64 K),(12,.int .i64 M),(187,.bool false)],[an,⟨true,[]⟩]):=by
 have h36:=fun k1 k2 b1 b2=>N8 (n+4) l z (Int.ofNat kb) k1 k2 b1 b2
 have hkn:(0:Int)≤Int.ofNat kb∧Int.ofNat kb≤14:=by show (0:Int)≤(kb:Int)∧(kb:Int)≤14;omega
 have hm:=oj h hkn.1 hkn.2
 unfold L7 at h36
 rw[if_pos hm,show (Int.ofNat kb).toNat=kb from rfl] at h36
 obtain ⟨q,q1,rfl⟩:=aE (Q:=fun q=>q=(.normal,[(0,ay 5 l z),(11,.int .i64 K),(12,.int .i64 M),(187,.bool false)],[an,⟨true,[]⟩])) (T7 (n+16) l kb kp z b pp pr K M own e6 (mX l z kb).1 bo e8 (dA (mX l z kb).2)) (cg _ _ (pD (bZ (bZ (aO _) h27) h44) h36)) (af _ _) (ag _ _) (by
  clear h36 h27 h44
  generalize (mX l z kb).1=mo at *
  by_cases c6:e6=0
  · by_cases c8:e8=0
    · have g1:=g1 c6
      have g2:=g2 c6 c8
      have g3:=g3 c8
      subst c6;subst c8
      exact wF
    · have g1:=g1 c6
      subst c6
      exact wF
  · by_cases c8:e8=0
    · have g3:=g3 c8
      subst c8
      exact wF
    · exact wF)
 exact q1
theorem Ub {K:Int} (h:bD l z=0) (hK:0≤K∧K≤12):exec (bu (n+16) 9 240) (chain [part Tryz.f9 [1,1,1,1,1,1,1,1,1,1,1,1,1,1,0],part Tryz.f9 [1,1,1,1,1,1,1,1,1,1,1,1,1,1,1,0],part Tryz.f9 [1,1,1,1,1,1,1,1,1,1,1,1,1,1,1,1]]) [(0,ay 5 l z),(11,.int .i64 K),(12,.int .i64 (mX l z K.toNat).1),(187,.bool false)] [an,⟨true,[]⟩]=some (.ret,[(10,.bool true)],[an,⟨true,[]⟩]):=by
 have e1:aS .i64 K (Int.ofNat 1)=K+1:=by rw[cD,show Int.ofNat 1=1 from rfl,cq (by omega) (by omega)]
 have e2:aS .i64 K (Int.ofNat 2)=K+2:=by rw[cD,show Int.ofNat 2=2 from rfl,cq (by omega) (by omega)]
 have m1:=oj h (show 0≤K+1 by omega) (by omega)
 have m2:=oj h (show 0≤K+2 by omega) (by omega)
 have r0:=tK (K:=K.toNat) h (by omega)
 have r1:=tK (K:=(K+1).toNat) h (by omega)
 have r2:=tK (K:=(K+2).toNat) h (by omega)
 have i0:=(mK (K:=K.toNat) h (by omega)).1
 have i1:=(mK (K:=(K+1).toNat) h (by omega)).1
 have i2:=(mK (K:=(K+2).toNat) h (by omega)).1
 have l1:=kG (show K.toNat≤(K+1).toNat by omega) i0.most i1.most
 have l2:=kG (show (K+1).toNat≤(K+2).toNat by omega) i1.most i2.most
 have hc:(mX l z K.toNat).1+(mX l z (K+2).toNat).1≤(mX l z (K+1).toNat).1+(mX l z (K+1).toNat).1:=by
  obtain ⟨P,hP,_⟩:=Lk l z h
  obtain ⟨P1,P2,_⟩:=ue hP
  have a1:=i1.most
  have a2:=i2.most
  rw[show (K+1).toNat=K.toNat+1 by omega] at a1 ⊢
  rw[show (K+2).toNat=K.toNat+2 by omega] at a2 ⊢
  exact rH P1 P2 (uG h) i0.most a1 a2
 have h0:K=0→(mX l z K.toNat).1=0:=fun hk=>by
  have hl:=i0.len
  rw[hk] at hl
  have:(mX l z K.toNat).2=[]:=by
   rw[hk]
   exact List.length_eq_zero_iff.1 (by simpa using hl)
  rw[← i0.wo,this];exact sB
 obtain ⟨q,q1,rfl⟩:=aE (Q:=fun q=>q=(.ret,[(10,.bool true)],[an,⟨true,[]⟩])) (T8 (n+16) l z K (mX l z K.toNat).1 (fun l z q=>jA l z q=0) (fun l z q=>(mX l z q.toNat).1) (fun l z q=>dA (mX l z q.toNat).2)) (cg _ _ (JU (Ou (by omega) (aO _)))) (af _ _) (ag _ _) (by
  rw[e1,e2]
  generalize (mX l z K.toNat).1=a at *
  generalize (mX l z (K+1).toNat).1=b1 at *
  generalize (mX l z (K+2).toNat).1=c1 at *
  have v1:bQ .i64 b1 a=b1-a:=by rw[cG,cq (by omega) (by omega)]
  have v2:bQ .i64 c1 b1=c1-b1:=by rw[cG,cq (by omega) (by omega)]
  rw[v1,v2]
  clear v1 v2 e1 e2 i0 i1 i2 r0 r1 r2
  by_cases hk:K=0
  · have h0:=h0 hk
    exact wF
  · exact wF)
 exact q1
end
end Go.Eng
end
section
namespace Go.Eng
open Go.Proofs
theorem JJ (z b:Nat→Int) (k i:Nat):vG z b k i=df (bE z) (bG z) ((List.range k).map b) i:=by
 rw[Bool.eq_iff_iff,eB]
 unfold vG
 rw[dv]
 constructor
 · rintro ⟨j,hj,e⟩
   have e2:pB z (b j) (i:Int)=sf z (b j) i:=by unfold pB;rw[Int.toNat_natCast]
   rw[← e2,xI,Int.toNat_natCast] at e
   exact ⟨b j,List.mem_map.2 ⟨j,by simpa using hj,rfl⟩,e⟩
 · rintro ⟨x,hx,e⟩
   obtain ⟨j,hj,rfl⟩:=List.mem_map.1 hx
   refine ⟨j,by simpa using hj,?_⟩
   have e2:pB z (b j) (i:Int)=sf z (b j) i:=by unfold pB;rw[Int.toNat_natCast]
   rw[← e2,xI,Int.toNat_natCast]
   exact e
theorem Aw (z b:Nat→Int) (k:Nat):∀ l,l8 z k b l=lZ l (bE z) (bG z) (cF z) ((List.range k).map b)
 | 0=>rfl
 | l+1=>by
   have ih:=Aw z b k l
   show (if vG z b k l=true then l8 z k b l+z (l*5+4) else l8 z k b l)=lZ l (bE z) (bG z) (cF z) ((List.range k).map b)+(if df (bE z) (bG z) ((List.range k).map b) l=true then cF z l else 0)
   rw[JJ,ih]
   by_cases c:df (bE z) (bG z) ((List.range k).map b) l=true
   · rw[if_pos c,if_pos c];rfl
   · rw[if_neg c,if_neg c];omega
theorem c9 (n l:Nat) (z:Nat→Int) (w:Int) (kb:Nat) (b:Nat→Int) (pr:Int) (kp:Nat) (pp:Nat→Int) (hw:0≤w∧w≤255) :
 cd (n+17) (.fn 9) [ay 5 l z,.int .u8 w,bc kb b false,.int .i64 pr,bc kp pp false] [⟨true,[]⟩]=some (.bool true,[⟨true,[]⟩]):=by
 suffices hs:∃ lv,exec (bu (n+16) 9 240) (chain [part Tryz.f9 [0],part Tryz.f9 [1,0],part Tryz.f9 [1,1,0],part Tryz.f9 [1,1,1,0],part Tryz.f9 [1,1,1,1,0],part Tryz.f9 [1,1,1,1,1,0],part Tryz.f9 [1,1,1,1,1,1,0],part Tryz.f9 [1,1,1,1,1,1,1,0],part Tryz.f9 [1,1,1,1,1,1,1,1,0],part Tryz.f9 [1,1,1,1,1,1,1,1,1,0],part Tryz.f9 [1,1,1,1,1,1,1,1,1,1,0],part Tryz.f9 [1,1,1,1,1,1,1,1,1,1,1,0],part Tryz.f9 [1,1,1,1,1,1,1,1,1,1,1,1,0],part Tryz.f9 [1,1,1,1,1,1,1,1,1,1,1,1,1,0],part Tryz.f9 [1,1,1,1,1,1,1,1,1,1,1,1,1,1,0],part Tryz.f9 [1,1,1,1,1,1,1,1,1,1,1,1,1,1,1,0],part Tryz.f9 [1,1,1,1,1,1,1,1,1,1,1,1,1,1,1,1]]) [(0,ay 5 l z),(1,.int .u8 w),(2,bc kb b false),(3,.int .i64 pr),(4,bc kp pp false)] [an,⟨true,[]⟩]=some (.ret,[(10,.bool true)],[lv,⟨true,[]⟩]) by
  obtain ⟨lv,hs⟩:=hs
  exact GV (n:=n+16) Tryz.func9 R8 rfl rfl (by rw[TU];exact hs) (Qi _ lv)
 by_cases hg:xl l z=false∨14<kb∨20<kp
 · obtain ⟨lv,hs⟩:=Uc n l kb kp z b pp w pr [⟨true,[]⟩] hg
   exact ⟨lv,BQ [part Tryz.f9 [0],part Tryz.f9 [1,0]] (by simp) hs⟩
 · have hf:xl l z=true:=by
    cases e:xl l z with
    | true=>rfl
    | false=>exact absurd (.inl e) hg
   have h:bD l z=0:=of_decide_eq_true hf
   have hkb:kb≤14:=by
    apply Classical.byContradiction;intro hc;exact hg (.inr (.inl (by omega)))
   have hkp:kp≤20:=by
    apply Classical.byContradiction;intro hc;exact hg (.inr (.inr (by omega)))
   obtain ⟨hl,hz⟩:=bI h
   obtain ⟨r1,r2,r3⟩:=Mx hw
   generalize w % 13=K at *
   have sa:=Ua n l kb kp z b pp w pr [⟨true,[]⟩] hf hkb hkp
   have hmo:=(mK (K:=K.toNat) h (by omega)).1
   have hmo1:=(mK (K:=(K+1).toNat) h (by omega)).1
   obtain ⟨p,hp,h43⟩:=RR (q:=K) h ⟨r2,by omega⟩
   have h43:=fun k1 k2 b1 b2=>h43 (n+4) k1 k2 b1 b2
   obtain ⟨l1,l2⟩:=Cj (q:=K) h ⟨r2,by omega⟩
   have hgood:yj l z (l5 l z K) l p:=⟨rfl,⟨l1,by omega⟩,hp.rg,hp.sum⟩
   have hval:K*l5 l z K+me l (cF z) p=(mX l z K.toNat).1:=by
    obtain ⟨P,hP,_⟩:=Lk l z h
    obtain ⟨P1,P2,_⟩:=ue hP
    obtain ⟨d,hd⟩:=hp.dual
    have a1:=hmo1.most
    have hlam:l5 l z K=(mX l z (K+1).toNat).1-(mX l z K.toNat).1:=rfl
    rw[hlam] at hd
    have hs:=hp.sum
    rw[hlam] at hs
    rw[hlam]
    rw[show (K+1).toNat=K.toNat+1 by omega] at a1 hd hs ⊢
    have:=Bd P1 P2 (uG h) hmo.most a1 hp.rg hs hd
    rw[show ((K.toNat:Nat):Int)=K by omega] at this
    rw[Int.mul_comm];exact this
   obtain ⟨V,E,v1,v2,v3⟩:=Rn (l:=l) (k:=l) (z:=z) (p:=p) (fl:=dS l l) (q:=K) (lam:=l5 l z K) h ⟨r2,by omega⟩
   have hE:E=0:=v1.2 hgood
   have hV:=v2 hE
   rw[hval] at hV
   subst hE;subst hV
   have h44:=fun H=>v3 n H
   have h45:=fun H=>RS (n+11) l z p (dS l l) K (l5 l z K) H h ⟨r2,by omega⟩ hgood
   rw[hval] at h45
   have h36:=fun k1 k2 b1 b2=>N8 (n+4) l z K k1 k2 b1 b2
   unfold L7 at h36
   rw[if_pos (oj h r2 (by omega))] at h36
   -- the other baths, and prices
   obtain ⟨bo,e8,u1,u2,u3⟩:=Rn (l:=l) (k:=kp) (z:=z) (p:=pp) (fl:=false) (q:=Int.ofNat kb) (lam:=pr) h (by show (0:Int)≤(kb:Int)∧(kb:Int)≤14;omega)
   have hmk:=(mK (K:=kb) h (by omega)).1.most
   have hbo:e8=0→∀ S:List Int,S.length≤kb→lZ l (bE z) (bG z) (cF z) S≤bo:=fun he S hS=>by
    obtain ⟨_,g2,g3,g4⟩:=u1.1 he
    have:=NC g3 g4 S
    have h1:pr*(S.length:Int)≤pr*(kb:Int):=Int.mul_le_mul_of_nonneg_left (by omega) g2.1
    have h2:Int.ofNat kb*pr=pr*(kb:Int):=Int.mul_comm _ _
    rw[u2 he,h2]
    omega
   have hg3:e8=0→(mX l z kb).1≤bo:=fun he=>by
    obtain ⟨S,s1,s2⟩:=hmk.1
    rw[← s2];exact hbo he S s1
   have se:=Ub n l z (K:=K) h ⟨r2,by omega⟩
   have sd:exec (bu (n+16) 9 240) (chain [part Tryz.f9 [1,1,1,1,1,1,1,1,1,1,0],part Tryz.f9 [1,1,1,1,1,1,1,1,1,1,1,0],part Tryz.f9 [1,1,1,1,1,1,1,1,1,1,1,1,0],part Tryz.f9 [1,1,1,1,1,1,1,1,1,1,1,1,1,0]]) [(0,ay 5 l z),(2,bc kb b false),(3,.int .i64 pr),(4,bc kp pp false),(11,.int .i64 K),(12,.int .i64 (mX l z K.toNat).1),(131,.bool false)] [an,⟨true,[]⟩]=some (.normal,[(0,ay 5 l z),(11,.int .i64 K),(12,.int .i64 (mX l z K.toNat).1),(187,.bool false)],[an,⟨true,[]⟩]):=by
    have h27:=fun H=>Rl (n+5) l kb z b false H
    unfold NM at h27
    rw[if_neg (fun x=>x h)] at h27
    by_cases hi:DD kb b=0
    · rw[if_neg (fun x=>x hi),Aw] at h27
      exact Rz n l kb kp z b pp pr h hkb h27 (fun H=>u3 n H) (fun _=>hmk.2 _ (by simp)) (fun _ he=>hbo he _ (by simp)) hg3
    · rw[if_pos hi] at h27
      exact Rz n l kb kp z b pp pr h hkb h27 (fun H=>u3 n H) (fun he=>absurd he hi) (fun he=>absurd he hi) hg3
   have hib:=Hd (Nat.le_trans hmo.len (by omega)) hmo.rg hmo.srt
   have hwo:=hmo.wo
   have hlen:=hmo.len
   rw[← yc] at hwo
   generalize (mX l z K.toNat).1=M at *
   generalize (mX l z K.toNat).2=B at *
   cases B with
   | nil =>
     have h0:M=0:=by rw[← hwo,yc];exact sB
     have sb:=Qo n l kb kp z b pp w pr r1 r2 h36 h43
     have sc:=Qq n l kb kp z b pp pr (K:=K) (lam:=l5 l z K) (p:=p) (fl:=dS l l) (M:=M) [⟨true,[]⟩] (fun H=>by rw[h0];exact N7 (n+5) l z H h) h44 h45 (fun H=>by rw[h0];exact Oa (n+14) l z H hl.2)
     exact ⟨_,(kZ [part Tryz.f9 [0],part Tryz.f9 [1,0]] (by simp) sa).trans ((kZ [part Tryz.f9 [1,1,0],part Tryz.f9 [1,1,1,0],part Tryz.f9 [1,1,1,1,0],part Tryz.f9 [1,1,1,1,1,0]] (by simp) sb).trans ((kZ [part Tryz.f9 [1,1,1,1,1,1,0],part Tryz.f9 [1,1,1,1,1,1,1,0],part Tryz.f9 [1,1,1,1,1,1,1,1,0],part Tryz.f9 [1,1,1,1,1,1,1,1,1,0]] (by simp) sc).trans ((kZ [part Tryz.f9 [1,1,1,1,1,1,1,1,1,1,0],part Tryz.f9 [1,1,1,1,1,1,1,1,1,1,1,0],part Tryz.f9 [1,1,1,1,1,1,1,1,1,1,1,1,0],part Tryz.f9 [1,1,1,1,1,1,1,1,1,1,1,1,1,0]] (by simp) sd).trans se)))⟩
   | cons a r =>
     simp only[List.length_cons] at hib hwo hlen
     have h27:∀ H,cd (n+16) (.fn 27) [ay 5 l z,bc (r.length+1) (bn (a::r)) false] H=some (.tup [.int .i64 M,.int .i64 0],H):=fun H=>by
      have:=Rl (n+5) l (r.length+1) z (bn (a::r)) false H
      unfold NM at this
      rw[if_neg (fun x=>x h),if_neg (fun x=>x hib),hwo] at this
      exact this
     have sb:=Qn n l kb kp z b pp w pr (nb:=r.length+1) (B:=bn (a::r)) r1 r2 (by omega) h36 h43
     have sc:=Qp n l kb kp z b pp pr (nb:=r.length+1) (B:=bn (a::r)) (K:=K) (lam:=l5 l z K) (p:=p) (fl:=dS l l) (M:=M) [⟨true,[]⟩] h27 h44 h45 (fun H=>by rw[← hwo];exact RQ (h:=h) (hk:=by omega) ..)
     exact ⟨_,(kZ [part Tryz.f9 [0],part Tryz.f9 [1,0]] (by simp) sa).trans ((kZ [part Tryz.f9 [1,1,0],part Tryz.f9 [1,1,1,0],part Tryz.f9 [1,1,1,1,0],part Tryz.f9 [1,1,1,1,1,0]] (by simp) sb).trans ((kZ [part Tryz.f9 [1,1,1,1,1,1,0],part Tryz.f9 [1,1,1,1,1,1,1,0],part Tryz.f9 [1,1,1,1,1,1,1,1,0],part Tryz.f9 [1,1,1,1,1,1,1,1,1,0]] (by simp) sc).trans ((kZ [part Tryz.f9 [1,1,1,1,1,1,1,1,1,1,0],part Tryz.f9 [1,1,1,1,1,1,1,1,1,1,1,0],part Tryz.f9 [1,1,1,1,1,1,1,1,1,1,1,1,0],part Tryz.f9 [1,1,1,1,1,1,1,1,1,1,1,1,1,0]] (by simp) sd).trans se)))⟩
end Go.Eng
end
section
namespace Go.Proofs.YtigmfpmabgekoaaGreat.Known
open Go.Eng Go.Proofs
noncomputable def E1:jx:=⟨51,[],.slcT none (.I .i64 [100,110,20,60,5,90,90,10,30,3,150,150,0,40,4,130,140,30,35,6]) 5 4 true⟩
theorem TW:cj Tryz.prog E1:=er named mixed CQ jl [50] KtB.kt 100000 40 (H':=[⟨true,[]⟩]) (by kernel_rfl) (by kernel_rfl)
noncomputable def Nh:List jx:=E1::Ng
theorem CR:∀ e ∈ Nh,cj Tryz.prog e:=eN TW CQ
noncomputable def E2:jx:=⟨18,[.slcT none (.I .i64 [100,110,20,60,5,90,90,10,30,3,150,150,0,40,4,130,130,25,50,6]) 5 4 true,.int .i64 80],.tup [.slcT none (.I .i64 [0,1,3]) 1 3 false,.int .i64 0]⟩
theorem TX:cj Tryz.prog E2:=er named mixed CR jl [68] KtB.kt 100000 40 (H':=[⟨true,[]⟩]) (by kernel_rfl) (by kernel_rfl)
noncomputable def Nj:List jx:=E2::Nh
theorem CS:∀ e ∈ Nj,cj Tryz.prog e:=eN TX CR
noncomputable def E3:jx:=⟨23,[.slcT none (.I .i64 [100,110,20,60,5,90,90,10,30,3,150,150,0,40,4,130,130,25,50,6]) 5 4 true],.tup [.slcT none (.I .i64 [80,150]) 1 2 true,.int .i64 0]⟩
theorem TY:cj Tryz.prog E3:=er named mixed CS jl [68] KtB.kt 100000 40 (H':=[⟨true,[]⟩]) (by kernel_rfl) (by kernel_rfl)
noncomputable def Nk:List jx:=E3::Nj
theorem CT:∀ e ∈ Nk,cj Tryz.prog e:=eN TY CS
end Go.Proofs.YtigmfpmabgekoaaGreat.Known
end
section
namespace Go.Proofs.YtigmfpmabgekoaaGreat.Known
open Go.Eng Go.Proofs
noncomputable def E4:jx:=⟨32,[.slcT none (.I .i64 [100,110,20,60,5,90,90,10,30,3,150,150,0,40,4,130,130,25,50,6]) 5 4 true],.tup [.slcT none (.I .i64 [0,2]) 1 2 false,.int .i64 0]⟩
theorem TZ:cj Tryz.prog E4:=er named mixed CT jl [68] KtB.kt 100000 40 (H':=[⟨true,[]⟩]) (by kernel_rfl) (by kernel_rfl)
noncomputable def Nl:List jx:=E4::Nk
theorem CU:∀ e ∈ Nl,cj Tryz.prog e:=eN TZ CT
noncomputable def E5:jx:=⟨25,[.slcT none (.I .i64 [100,110,20,60,5,90,90,10,30,3,150,150,0,40,4,130,130,25,50,6]) 5 4 true],.tup [.slcT none (.I .i64 [2]) 1 1 false,.int .i64 0]⟩
theorem T2:cj Tryz.prog E5:=er named mixed CU jl [68] KtB.kt 100000 40 (H':=[⟨true,[]⟩]) (by kernel_rfl) (by kernel_rfl)
noncomputable def Nm:List jx:=E5::Nl
theorem CV:∀ e ∈ Nm,cj Tryz.prog e:=eN T2 CU
noncomputable def E6:jx:=⟨36,[.slcT none (.I .i64 [100,110,20,60,5,90,90,10,30,3,150,150,0,40,4,130,130,25,50,6]) 5 4 true,.int .i64 1],.tup [.int .i64 14,.slcT none (.I .i64 [80]) 1 1 false,.int .i64 0]⟩
theorem T3:cj Tryz.prog E6:=er named mixed CV jl [68] KtB.kt 100000 40 (H':=[⟨true,[]⟩]) (by kernel_rfl) (by kernel_rfl)
noncomputable def Nn:List jx:=E6::Nm
theorem CW:∀ e ∈ Nn,cj Tryz.prog e:=eN T3 CV
end Go.Proofs.YtigmfpmabgekoaaGreat.Known
end
section
namespace Go.Proofs.YtigmfpmabgekoaaGreat.Known
open Go.Eng Go.Proofs
noncomputable def E7:jx:=⟨43,[.slcT none (.I .i64 [100,110,20,60,5,90,90,10,30,3,150,150,0,40,4,130,130,25,50,6]) 5 4 true,.int .i64 1],.tup [.int .i64 4,.slcT none (.I .i64 [1,3,4,0]) 1 4 true,.int .i64 0]⟩
theorem T4:cj Tryz.prog E7:=er named mixed CW jl [68] KtB.kt 100000 40 (H':=[⟨true,[]⟩]) (by kernel_rfl) (by kernel_rfl)
noncomputable def No:List jx:=E7::Nn
theorem CX:∀ e ∈ No,cj Tryz.prog e:=eN T4 CW
noncomputable def E8:jx:=⟨45,[.slcT none (.I .i64 [100,110,20,60,5,90,90,10,30,3,150,150,0,40,4,130,130,25,50,6]) 5 4 true,.int .i64 1,.int .i64 4,.slcT none (.I .i64 [1,3,4,0]) 1 4 true],.tup [.int .i64 14,.int .i64 0]⟩
theorem T5:cj Tryz.prog E8:=er named mixed CX jl [68] KtB.kt 100000 40 (H':=[⟨true,[]⟩]) (by kernel_rfl) (by kernel_rfl)
noncomputable def Np:List jx:=E8::No
theorem CY:∀ e ∈ Np,cj Tryz.prog e:=eN T5 CX
noncomputable def E9:jx:=⟨34,[.slcT none (.I .i64 [100,110,20,60,5,90,90,10,30,3,150,150,0,40,4,130,130,25,50,6]) 5 4 true,.slcT none (.I .i64 [0,2]) 1 2 false],.int .i64 0⟩
theorem T6:cj Tryz.prog E9:=er named mixed CY jl [68] KtB.kt 100000 40 (H':=[⟨true,[]⟩]) (by kernel_rfl) (by kernel_rfl)
noncomputable def Nq:List jx:=E9::Np
theorem CZ:∀ e ∈ Nq,cj Tryz.prog e:=eN T6 CY
end Go.Proofs.YtigmfpmabgekoaaGreat.Known
end
section
namespace Go.Proofs.YtigmfpmabgekoaaGreat.Known
open Go.Eng Go.Proofs
noncomputable def Ra:jx:=⟨39,[.slcT none (.I .i64 [100,110,20,60,5,90,90,10,30,3,150,150,0,40,4,130,130,25,50,6]) 5 4 true,.slcT none (.I .i64 [80]) 1 1 false],.int .i64 14⟩
theorem PR:cj Tryz.prog Ra:=er named mixed CZ jl [68] KtB.kt 100000 40 (H':=[⟨true,[]⟩]) (by kernel_rfl) (by kernel_rfl)
noncomputable def Jb:List jx:=Ra::Nq
theorem An:∀ e ∈ Jb,cj Tryz.prog e:=eN PR CZ
noncomputable def Rb:jx:=⟨36,[.slcT none (.I .i64 [100,110,20,60,5,90,90,10,30,3,150,150,0,40,4,130,130,25,50,6]) 5 4 true,.int .i64 0],.tup [.int .i64 0,.nils,.int .i64 0]⟩
theorem PS:cj Tryz.prog Rb:=er named mixed An jl [68] KtB.kt 100000 40 (H':=[⟨true,[]⟩]) (by kernel_rfl) (by kernel_rfl)
noncomputable def Jc:List jx:=Rb::Jb
theorem Ao:∀ e ∈ Jc,cj Tryz.prog e:=eN PS An
noncomputable def Rc:jx:=⟨36,[.slcT none (.I .i64 [100,110,20,60,5,90,90,10,30,3,150,150,0,40,4,130,130,25,50,6]) 5 4 true,.int .i64 2],.tup [.int .i64 18,.slcT none (.I .i64 [80,110]) 1 2 false,.int .i64 0]⟩
theorem PT:cj Tryz.prog Rc:=er named mixed Ao jl [68] KtB.kt 100000 40 (H':=[⟨true,[]⟩]) (by kernel_rfl) (by kernel_rfl)
noncomputable def Jd:List jx:=Rc::Jc
theorem Ap:∀ e ∈ Jd,cj Tryz.prog e:=eN PT Ao
end Go.Proofs.YtigmfpmabgekoaaGreat.Known
end
section
namespace Go.Proofs.YtigmfpmabgekoaaGreat.Known
open Go.Eng Go.Proofs
noncomputable def Re:jx:=⟨18,[.slcT none (.I .i64 [100,110,20,60,5,90,90,10,30,3,150,150,0,40,4,130,130,25,50,6]) 5 4 true,.int .i64 81],.tup [.slcT none (.I .i64 [3]) 1 1 false,.int .i64 0]⟩
theorem PU:cj Tryz.prog Re:=er named mixed Ap jl [68] KtB.kt 100000 40 (H':=[⟨true,[]⟩]) (by kernel_rfl) (by kernel_rfl)
noncomputable def Je:List jx:=Re::Jd
theorem Aq:∀ e ∈ Je,cj Tryz.prog e:=eN PU Ap
noncomputable def Rf:jx:=⟨36,[.slcT none (.I .i64 [100,110,20,60,5,90,90,10,30,3,150,150,0,40,4,130,140,30,35,6]) 5 4 true,.int .i64 1],.tup [.int .i64 8,.slcT none (.I .i64 [60]) 1 1 false,.int .i64 0]⟩
theorem PV:cj Tryz.prog Rf:=er named mixed Aq jl [68] KtB.kt 100000 40 (H':=[⟨true,[]⟩]) (by kernel_rfl) (by kernel_rfl)
noncomputable def Ni:List jx:=Rf::Je
theorem Gi:∀ e ∈ Ni,cj Tryz.prog e:=eN PV Aq
end Go.Proofs.YtigmfpmabgekoaaGreat.Known
end
section
namespace Go.Proofs.YtigmfpmabgekoaaGreat.Known
open Go.Eng Go.Proofs
noncomputable def EW:jx:=⟨15,[],.bool true⟩
theorem okW:cj Tryz.prog EW:=er named mixed Gi jl [68] KtB.kt 100000 40 (H':=[⟨true,[]⟩]) (by kernel_rfl) (by kernel_rfl)
end Go.Proofs.YtigmfpmabgekoaaGreat.Known
end
section
namespace Go.Eng
open Go.Proofs Go.ChangeShapes Go.WideShapes Go.ChangeAt Go.RowKit
theorem Ud {p:aJ} {M:Mu} {k:IntKind} {z:Nat→Int} {N sz len:Nat} {full:Bool} {v:Value} (h:ai p M (.slcT none (.F (fun j=>.int k (z j)) N) sz len full) v):ai p M (.slcT none (.M [.arr k z N]) sz len full) v:=by
 cases h with
 | slcN=>exact .slcN
 | slcT vs h0 h1 hv hl hf hx =>
   have e:∀ j,j<(Row.M [aM.arr k z N]).len→j<N:=fun j hj=>by simpa[Row.len,aD,aN] using hj
   refine .slcT vs (fun j hj=>h0 j (e j hj)) (fun j hj=>h1 j (e j hj)) (fun j hj=>?_) hl hf hx
   have:=hv j (e j hj)
   simp only[Row.get,getM,if_pos (e j hj)] at this ⊢
   exact this.bF _ _
theorem Bn {P:Program} {w:World} {r:Reach} {base:Nat} {t e:TypeId} {v:Value} (ht:P.underlying t=some (.slice e)) (h:Cell.okWide P w r base t v):∀ a l c,v=.slice (some a) l c→a.spot=none:=by
 rintro a l c rfl
 simp only[Cell.okWide,ht,Cell.ok] at h
 exact h.2.2.2.1
theorem EV:Ej Tryz.prog 2 1:=yE Tryz.underlying2
theorem EX:Ej Tryz.prog 26 2:=xn Tryz.underlying26 EV EV rfl rfl (by kernel_rfl) (by kernel_rfl) (by kernel_rfl)
theorem xo {P:Program} {k:IntKind} {t:TypeId} {f0 f1 f2:Field} {n0 n1 n2:Nat} (ht:P.underlying t=some (.struct #[f0,f1,f2])) (h0:ma k P f0.type n0) (h1:ma k P f1.type n1) (h2:ma k P f2.type n2) (o0:f0.offset=0) (o1:f1.offset=n0) (o2:f2.offset=n0+n1) (c0:P.cellsOf f0.type=n0) (c1:P.cellsOf f1.type=n1) (c2:P.cellsOf f2.type=n2) (c:P.cellsOf t=n0+n1+n2):ma k P t (n0+n1+n2):=by
 intro H enc w base sp held fuel cs x h
 obtain ⟨xs,m,_,_,hl,hxl,hf⟩:=DataW.trod_struct ht h
 match xs,hxl,hf with
 | [y0,y1,y2],_,hf =>
   have g0:=hf 0 f0 rfl
   have g1:=hf 1 f1 rfl
   have g2:=hf 2 f2 rfl
   obtain ⟨_,k0⟩:=h0 _ _ _ _ _ _ _ _ _ g0
   obtain ⟨_,k1⟩:=h1 _ _ _ _ _ _ _ _ _ g1
   obtain ⟨_,k2⟩:=h2 _ _ _ _ _ _ _ _ _ g2
   refine ⟨by rw[hl,c],fun j hj=>?_⟩
   by_cases p:j<n0
   · obtain ⟨z,hz,hw⟩:=k0 j p
     refine ⟨z,?_,hw⟩
     rw[o0,c0] at hz
     simpa[List.getElem?_take,p] using hz
   by_cases q:j<n0+n1
   · obtain ⟨z,hz,hw⟩:=k1 (j-n0) (by omega)
     refine ⟨z,?_,hw⟩
     rw[o1,c1] at hz
     have:j-n0<n1:=by omega
     simpa[List.getElem?_take,this,List.getElem?_drop,show n0+(j-n0)=j by omega] using hz
   · obtain ⟨z,hz,hw⟩:=k2 (j-(n0+n1)) (by omega)
     refine ⟨z,?_,hw⟩
     rw[o2,c2] at hz
     have:j-(n0+n1)<n2:=by omega
     simpa[List.getElem?_take,this,List.getElem?_drop,show n0+n1+(j-(n0+n1))=j by omega] using hz
theorem JT:Ej Tryz.prog 56 5:=xo Tryz.underlying56 EX EX EV rfl rfl rfl (by kernel_rfl) (by kernel_rfl) (by kernel_rfl) (by kernel_rfl)
def rf (t:TypeId) (A:AV→Prop):Prop:=∀ (H:Type) (enc:TypeId×Value→H) (w:World) (r:Reach) (b0 base:Nat) (sp:Nat→Bool) (held:Bool) (v:Value) (d:DataW H) (ps:List MemPlace),
 Value.okWide Tryz.prog w r b0 t v→DataW.Trod enc Tryz.prog w base sp held t v d ps→∃ a,A a∧ai (Pw w) Mu.no a v
def Az:List (AV→Prop)→List AV→Prop
 | [],[]=>True
 | A::As,a::xs=>A a∧Az As xs
 | _,_=>False
theorem kj {A:AV→Prop} {As:List (AV→Prop)} {xs:List AV} (h:Az (A::As) xs):∃ a ys,xs=a::ys∧A a∧Az As ys:=by
 cases xs with
 | nil=>exact h.elim
 | cons a ys=>exact ⟨a,ys,rfl,h.1,h.2⟩
theorem Eo {xs:List AV} (h:Az [] xs):xs=[]:=by
 cases xs with
 | nil=>rfl
 | cons a ys=>exact h.elim
def Jj:List TypeId→List (AV→Prop)→Prop
 | [],[]=>True
 | t::ts,A::As=>rf t A∧Jj ts As
 | _,_=>False
theorem BJ {H:Type} {enc:TypeId×Value→H} {w:World} {r:Reach} {b0 base:Nat} {sp:Nat→Bool} {held:Bool}:∀ (ts:List TypeId) (As:List (AV→Prop)) (vs:List Value) (ds:List (DataW H)) (ps:List MemPlace),Jj ts As →
 (∀ (j:Nat) t v,ts[j]?=some t→vs[j]?=some v→Value.okWide Tryz.prog w r b0 t v)→DataW.TrodAll enc Tryz.prog w base sp held ts vs ds ps→∃ xs,Az As xs∧vs.length=xs.length∧∀ j,j<xs.length→ai (Pw w) Mu.no (xs.getD j .undef) (vs.getD j undef)
 | [],[],vs,ds,ps,_,_,h=>by
   obtain ⟨rfl,rfl,rfl⟩:=trodAll_nil h
   exact ⟨[],trivial,rfl,fun j hj=>by simp at hj⟩
 | t::ts,A::As,vs,ds,ps,hT,hv,h=>by
   obtain ⟨v,vs',d,ds',p,q,rfl,rfl,rfl,h1,h2⟩:=trodAll_cons h
   obtain ⟨a,ha,hr⟩:=hT.1 H enc w r b0 base sp held v d p (hv 0 t v rfl rfl) h1
   obtain ⟨xs,hA,hl,hR⟩:=BJ ts As vs' ds' q hT.2 (fun j t' v' e1 e2=>hv (j+1) t' v' (by simpa using e1) (by simpa using e2)) h2
   refine ⟨a::xs,⟨ha,hA⟩,by simp[hl],fun j hj=>?_⟩
   cases j with
   | zero=>exact hr
   | succ j=>simpa using hR j (by simpa using hj)
 | [],_::_,_,_,_,hT,_,_=>hT.elim
 | _::_,[],_,_,_,hT,_,_=>hT.elim
theorem wI {H:Type} {enc:TypeId×Value→H} {W W':World} {base:Nat} {sp':Nat→Bool} (hl:laidOutB Tryz.prog=true):∀ (ts:List TypeId) (vs:List Value) (ds:List (DataW H)) (ps:List MemPlace),(∀ t ∈ ts,Tryz.prog.readableRec t=true∧t<Tryz.prog.types.size) →
 DataW.TrodAll enc Tryz.prog W base (fun _=>true) true ts vs ds ps→(∀ p ∈ ps,W.sameAt W' p)→(∀ p ∈ ps,sp' p.block=true)→DataW.TrodAll enc Tryz.prog W' base sp' true ts vs ds ps
 | [],vs,ds,ps,_,h,_,_=>by
   obtain ⟨rfl,rfl,rfl⟩:=trodAll_nil h
   exact trodAll_mk0
 | t::ts,vs,ds,ps,ht,h,hs,hp=>by
   obtain ⟨v,vs',d,ds',p,q,rfl,rfl,rfl,h1,h2⟩:=trodAll_cons h
   obtain ⟨r1,r2⟩:=ht t (by simp)
   refine ⟨p,q,?_,wI hl ts vs' ds' q (fun t' h'=>ht t' (List.mem_cons_of_mem _ h')) h2 (fun x hx=>hs x (List.mem_append_right _ hx)) (fun x hx=>hp x (List.mem_append_right _ hx)),rfl⟩
   exact WideElems.Trod_stays hl r1 r2 h1 (fun x hx=>hs x (List.mem_append_left _ hx)) (fun x hx=>hp x (List.mem_append_left _ hx))
theorem Ln (hN:cH Tryz.prog) (hm:Tryz.prog.follows .mixedOrders=true) (hW:cj Tryz.prog ⟨15,[],.bool true⟩) (n:Nat):bR Tryz.prog (cd n) :=
 qo hN (xg hN hm) (HW hN (xg hN hm) hW) KtB.kt 100000 n
theorem DK {f:FuncId} {ts:List TypeId} {As:List (AV→Prop)} (hT:Jj ts As) {n:Nat} (hlaw:∀ xs,Az As xs→∃ H',cd n (.fn f) xs [⟨true,[]⟩]=some (.bool true,H')) {H:Type} {enc:TypeId×Value→H} {w:World} {r:Reach} {b0 base:Nat} {sp:Nat→Bool} {held:Bool} {args:Array Value} {ds:List (DataW H)} {ps:List MemPlace}
 (hv:∀ (j:Nat) t v,ts[j]?=some t→args[j]?=some v→Value.okWide Tryz.prog w r b0 t v) (h:DataW.TrodAll enc Tryz.prog w base sp held ts args.toList ds ps) :
 Calls Tryz.prog f args w (fun e w'=>e=.returned (.bool true)∧Go.RowKit.Below w.heap.size w w'):=by
 obtain ⟨xs,hA,hl,hR⟩:=BJ ts As args.toList ds ps hT (fun j t v e1 e2=>hv j t v e1 (by simpa using e2)) h
 obtain ⟨H',hc⟩:=hlaw xs hA
 refine De (Ln YtigmfpmabgekoaaGreat.Known.named YtigmfpmabgekoaaGreat.Known.mixed YtigmfpmabgekoaaGreat.Known.okW n) hc ⟨by simpa using hl,fun j hj=>?_⟩
 have:=hR j hj
 have e:args.toList.getD j undef=args.getD j undef:=by
  rw[Array.getD_eq_getD_getElem?,List.getD_eq_getElem?_getD,Array.getElem?_toList]
 rwa [e] at this
def Jh (a:AV):Prop:=∃ n:Int,a=.int .i64 n∧-9223372036854775808≤n∧n≤9223372036854775807
theorem BI {t:TypeId} {k:IntKind} (ht:Tryz.prog.underlying t=some (.int k)):rf t (fun a=>∃ n:Int,a=.int k n∧(Lit.int k n).wf=true):=fun H enc w r b0 base sp held v d ps hv h=>by
 obtain ⟨fuel,hf⟩:=h
 obtain ⟨n,e,_,hw⟩:=DataW.trod_int ht hf
 obtain ⟨s,rfl⟩:=WideShapes.okWide_int ht hv
 have:s=n:=by simpa[Value.cells] using e
 subst this
 exact ⟨_,⟨s,rfl,hw⟩,.int _ _⟩
def NO (a:AV):Prop:=∃ n:Int,a=.int .u8 n∧0≤n∧n≤255
theorem Ld:rf 5 NO:=fun H enc w r b0 base sp held v d ps hv h=>by
 obtain ⟨a,⟨n,rfl,hw⟩,hr⟩:=BI Tryz.underlying5 H enc w r b0 base sp held v d ps hv h
 simp[Lit.wf,IntKind.min,IntKind.max,IntKind.signed,IntKind.bits] at hw
 exact ⟨_,⟨n,rfl,by omega,by omega⟩,hr⟩
theorem own:ownKnob Tryz.prog.godebug=none:=by kernel_rfl
theorem laidOut:laidOutB Tryz.prog=true:=by kernel_rfl
theorem yn {t e n:Nat} {k:IntKind} (ht:Tryz.prog.underlying t=some (.slice e)) (he:ma k Tryz.prog e n) (hn:0<n) (hc:Tryz.prog.cellsOf e=n):rf t (fun a=>∃ (len:Nat) (z:Nat→Int),a=.slcT none (.M [.arr k z (len*n)]) n len false∧∀ j,(Lit.int k (z j)).wf=true):=fun H enc w r b0 base sp held v d ps hv h=>by
 simp only[Value.okWide,ht] at hv
 have hcell:v.cells.toList=[v]:=by
  simp only[Cell.okWide,ht] at hv
  cases v<;>simp_all [Cell.ok]<;>rfl
 obtain ⟨fuel,hf⟩:=h
 rw[hcell] at hf
 have h0:(Lit.int k 0).wf=true:=by cases k<;>rfl
 rcases Bl ht he hn hc (Bn ht hv) hf with rfl | ⟨zs,len,h1,h2⟩
 · exact ⟨_,⟨0,fun _=>0,rfl,fun _=>h0⟩,.slcN⟩
 · refine ⟨_,⟨len,fun j=>if j<len*n then zs j else 0,rfl,fun j=>?_⟩,?_⟩
   · dsimp only
     split
     · exact h2 _ (by assumption)
     · exact h0
   · have h3:=Ud h1
     cases h3 with
     | slcN=>exact .slcN
     | slcT vs a0 a1 hv' hl hf' hx =>
       refine .slcT vs a0 a1 (fun j hj=>?_) hl hf' hx
       have:=hv' j hj
       have hj':j<len*n:=by simpa[Row.len,aD,aN] using hj
       simp only[Row.get,getM,if_pos hj'] at this ⊢
       exact this.bF _ _
def vr (a:AV):Prop:=∃ (len:Nat) (z:Nat→Int),a=.slcT none (.M [.arr .i64 z len]) 1 len false∧∀ j,-9223372036854775808≤z j∧z j≤9223372036854775807
theorem GN {t e:TypeId} (ht:Tryz.prog.underlying t=some (.slice e)) (he:Tryz.prog.underlying e=some (.int .i64)) (hc:Tryz.prog.cellsOf e=1):rf t vr:=fun H enc w r b0 base sp held v d ps hv h=>by
 obtain ⟨a,⟨len,z,rfl,hz⟩,hr⟩:=yn ht (yE he) (by omega) hc H enc w r b0 base sp held v d ps hv h
 refine ⟨_,⟨len,z,by rw[Nat.mul_one],fun j=>?_⟩,hr⟩
 have:=hz j
 simp[Lit.wf,IntKind.min,IntKind.max,IntKind.signed,IntKind.bits] at this
 omega
theorem IK:rf 36 vr:=GN Tryz.underlying36 Tryz.underlying2 (by kernel_rfl)
theorem Jt:rf 2 Jh:=fun H enc w r b0 base sp held v d ps hv h=>by
 obtain ⟨a,⟨n,rfl,hw⟩,hr⟩:=BI Tryz.underlying2 H enc w r b0 base sp held v d ps hv h
 simp[Lit.wf,IntKind.min,IntKind.max,IntKind.signed,IntKind.bits] at hw
 exact ⟨_,⟨n,rfl,by omega,by omega⟩,hr⟩
def Ji (a:AV):Prop:=∃ (len:Nat) (z:Nat→Int),a=ay 5 len z
theorem Ju:rf 22 Ji:=fun H enc w r b0 base sp held v d ps hv h=>by
 obtain ⟨a,⟨len,z,rfl,hz⟩,hr⟩:=yn Tryz.underlying22 JT (by omega) (by kernel_rfl) H enc w r b0 base sp held v d ps hv h
 refine ⟨_,⟨len,z,rfl⟩,?_⟩
 unfold ay
 rw[cu]
 exact hr
end Go.Eng
end
