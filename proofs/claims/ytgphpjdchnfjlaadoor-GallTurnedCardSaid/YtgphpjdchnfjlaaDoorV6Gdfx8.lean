/- Gall: the law of turned lists, whole. -/
import Derived.Test.YtgphpjdchnfjlaaDoorV6Gddx3
import Derived.Test.YtgphpjdchnfjlaaDoorV6Gp2x6
import Derived.Test.YtgphpjdchnfjlaaDoorRows
import Derived.Test.YtgphpjdchnfjlaaDoorChecked
import Derived.Test.YtgphpjdchnfjlaaDoorTie
import Derived.Test.YtgphpjdchnfjlaaDoorCards
import Derived.ProofKit
import Derived.Lib.LaidIn
import Derived.Lib.LaidTab
import Derived.FnData
import Derived.Handed
import Derived.SevenTiedAt
import Derived.Test.YtgphpjdchnfjlaaDoorV6GaKx6
set_option linter.unusedVariables false
set_option linter.unusedSimpArgs false
set_option maxRecDepth 100000
section
namespace Go.Eng
open Int (ofNat)
open Go.Proofs Go.Eng.Gall
theorem A7 {O:Int} {M:Nat} (hd:1≤O∧O≤100) (hM:M+1≤10):bm .i64 (qJ .i64 (aV .i64 (ofNat (M+1)) (ofNat 1)) O) (ofNat 1000)=(((M+1:Nat):Int)-1)*O+1000:=by
 have e1:aV .i64 (ofNat (M+1)) (ofNat 1)=(M:Int):=by simp (disch:=omega) only[nV,nW];omega
 have hm:0≤(M:Int)*O∧(M:Int)*O≤900:=by
  constructor
  · exact Int.mul_nonneg wO wO
  · calc (M:Int)*O≤9*100:=Int.mul_le_mul wO wO wO wO
    _=900:=by decide
 rw[e1,pH,jK wO wO,show (((M+1:Nat):Int)-1)=(M:Int) by omega];simp (disch:=omega) only[nV,nW]
theorem IA {wh:Int} {M:Nat} (hwh:0≤wh∧wh≤255):lQ .i64 (FE .i64 wh) (ofNat (M+1))=wh % ((M+1:Nat):Int):=by
 rw[ON wO wO,sj,Int.tmod_eq_emod_of_nonneg hwh.1];rfl
theorem yn (F:Nat→Int):qX F 0=fun _=>ofNat 0:=by funext i;unfold qX;rw[if_neg wO];rfl
theorem Qm (n U:Nat) (H:aa) (a0 a1 a2:Nat×ak):exec (bN (n+2) 11 204) (.block 6 (.loop (part Tryd.f11 [1,1,1,1,1,1,1,1,1,1,1,1,1,1,1,0,1,0,0]))) (im U (ofNat 0)) (⟨false,[a0,a1,a2]⟩::H)=some (.normal,im U (ofNat 0)++[(184,.bool false)],⟨false,[a0,a1,a2]⟩::H):=by
 refine fQ (n:=n+2) (f:=11) (nt:=204) (c:=part Tryd.f11 [1,1,1,1,1,1,1,1,1,1,1,1,1,1,1,0,1,0,0]) 6 (fun j=>im U (j:Int)) (fun j=>⟨false,[a0,a1,a2]⟩::H) 0 (im U (ofNat 0)++[(184,.bool false)],⟨false,[a0,a1,a2]⟩::H) wO (fun j hj=>absurd hj wO) ?_;obtain ⟨x,h1,rfl⟩:=aw (Q:=fun x=>x=(.exit 6,im U (ofNat 0)++[(184,.bool false)],⟨false,[a0,a1,a2]⟩::H)) (Rz n U (ofNat 0) a0 a1 a2 H) (cD n 2) (ai _ _) (aj _ _) (by
  refine Tr.af wJ (fun h0=>Tr.ag rfl))
 exact h1
theorem Ll (n U:Nat) (H:aa) (a0 a1 a2 a3:Nat×ak):exec (bN (n+2) 11 204) (.block 6 (.loop (part Tryd.f11 [1,1,1,1,1,1,1,1,1,1,1,1,1,1,1,0,1,0,0]))) (im U (ofNat 0)) (⟨false,[a0,a1,a2,a3]⟩::H)=some (.normal,im U (ofNat 0)++[(184,.bool false)],⟨false,[a0,a1,a2,a3]⟩::H):=by
 refine fQ (n:=n+2) (f:=11) (nt:=204) (c:=part Tryd.f11 [1,1,1,1,1,1,1,1,1,1,1,1,1,1,1,0,1,0,0]) 6 (fun j=>im U (j:Int)) (fun j=>⟨false,[a0,a1,a2,a3]⟩::H) 0 (im U (ofNat 0)++[(184,.bool false)],⟨false,[a0,a1,a2,a3]⟩::H) wO (fun j hj=>absurd hj wO) ?_;obtain ⟨x,h1,rfl⟩:=aw (Q:=fun x=>x=(.exit 6,im U (ofNat 0)++[(184,.bool false)],⟨false,[a0,a1,a2,a3]⟩::H)) (RA n U (ofNat 0) a0 a1 a2 a3 H) (cD n 2) (ai _ _) (aj _ _) (by
  refine Tr.af wJ (fun h0=>Tr.ag rfl))
 exact h1
theorem Qn (n U:Nat) (H:aa) (a0 a1 a2 a3 a4:Nat×ak):exec (bN (n+2) 11 204) (.block 6 (.loop (part Tryd.f11 [1,1,1,1,1,1,1,1,1,1,1,1,1,1,1,0,1,0,0]))) (im U (ofNat 0)) (⟨false,[a0,a1,a2,a3,a4]⟩::H)=some (.normal,im U (ofNat 0)++[(184,.bool false)],⟨false,[a0,a1,a2,a3,a4]⟩::H):=by
 refine fQ (n:=n+2) (f:=11) (nt:=204) (c:=part Tryd.f11 [1,1,1,1,1,1,1,1,1,1,1,1,1,1,1,0,1,0,0]) 6 (fun j=>im U (j:Int)) (fun j=>⟨false,[a0,a1,a2,a3,a4]⟩::H) 0 (im U (ofNat 0)++[(184,.bool false)],⟨false,[a0,a1,a2,a3,a4]⟩::H) wO (fun j hj=>absurd hj wO) ?_;obtain ⟨x,h1,rfl⟩:=aw (Q:=fun x=>x=(.exit 6,im U (ofNat 0)++[(184,.bool false)],⟨false,[a0,a1,a2,a3,a4]⟩::H)) (RB n U (ofNat 0) a0 a1 a2 a3 a4 H) (cD n 2) (ai _ _) (aj _ _) (by
  refine Tr.af wJ (fun h0=>Tr.ag rfl))
 exact h1
section
variable (O:Int) (M:Nat) (Z:Nat→Int) (J:Nat→Int) (n:Nat) (H:aa) (wh:Int) (zo:Nat→Int)
set_option maxHeartbeats 4000000 in
theorem I4 (h0:bL O (M+1) Z 0 J=0) (hmo:0≤20) (hwh:0≤wh∧wh≤255) (hn:¬ (bL O (M+1) (bG O (M+1) Z) 0 (bM 0 J)=0∧wA O (M+1) Z 0 J=none)):cd (n+19) (.fn 11) [bj O (M+1) Z 0 J,aF 0 zo false,.int .u8 wh] H=some (.bool true,H):=by
 obtain ⟨k1,k2,k3,k4,k5,k6⟩:=ke h0;obtain ⟨k,hk⟩:∃ k:Int,wh % ((M+1:Nat):Int)=k:=⟨_,rfl⟩
 have ek:=IA (M:=M) hwh;rw[hk] at ek;have hkb:0≤k∧k<((M+1:Nat):Int):=⟨by rw[← hk];exact Int.emod_nonneg _ wO,by rw[← hk];exact Int.emod_lt_of_pos _ wO⟩
 have eu:=A7 (M:=M) k3 k1.2;obtain ⟨up,hup⟩:∃ up:Int,(((M+1:Nat):Int)-1)*O+1000=up:=⟨_,rfl⟩
 have em:aV .i64 (ofNat 0) (ofNat 1)=((0:Nat):Int)-1-((0:Nat):Int):=by simp (disch:=omega) only[nV,nW];omega
 have la:=y8 (n+16) O (M+1) Z 0 J H 0 zo k k1.2 k4 k3;have V:=y9 (n+16) O (M+1) Z 0 J H 0 zo k k2 M (bG O (M+1) Z);have U:=Dq (n+16) O (M+1) Z 0 J H 0 zo k (bG O (M+1) Z) (bM 0 J) M 0 hmo;have ld:=Qm (n+16) (M+1) H (0,.row (.G [.int .i64 O,slA 4 (M+1) Z,slA 2 0 J])) (0,.row (.G [.int .i64 O,slA 4 (M+1) (bG O (M+1) Z),slA 2 0 (bM 0 J)])) (M,.dead);have tb:=fun q=>A6 O (M+1) Z 0 J 0 zo k n h0 hkb wO (fun x=>.tup [.nils,.int .i64 (ofNat 13)]) (bL O (M+1) (bG O (M+1) Z) 0 (bM 0 J)=0) (fun h=>h) (fun h=>Kb O (M+1) Z 0 J k h0 h hkb (fun ho=>hn ⟨h,ho⟩)) q;have T:=OC (n+16) O (M+1) Z 0 J H 0 zo wh k up (((0:Nat):Int)-1-((0:Nat):Int)) (((0:Nat):Int)-1-((0:Nat):Int)) M 0 0 ((M+1)*4) 0 (bG O (M+1) Z) (bM 0 J) (qX (me 0 zo) 0) (yc O (M+1) Z 0 J) (fun x=>(bL O (M+1) (bG O (M+1) Z) 0 (bM 0 J)=0)∧yc O (M+1) Z 0 J x) (fun x=>(bL O (M+1) (bG O (M+1) Z) 0 (bM 0 J)=0)∧II O (M+1) Z 0 J k x) (fun x=>(bL O (M+1) (bG O (M+1) Z) 0 (bM 0 J)=0)∧IJ O (M+1) Z 0 J 0 zo x) eG (fun _=>(rR (M+1) (dg O (M+1) Z) 0 J 0 zo)) (Q.cntF (M+1) (dg O (M+1) Z) (fI 0 J));rw[hup] at eu la;rw[ek,eu,em,bU] at T;refine bF (n:=n+18) Tryd.func11 rfl rfl rfl T (ir _ (n+16) 2 tb) (az (az (az (az (ai _ _) qS (fun x hx=>bJ hx (by simp only[db.st,aq];exact la))) qT (fun x hx=>bJ hx (by simp only[db.st,aq];exact V))) qU (fun x hx=>bJ hx (by simp only[db.st,aq];exact U))) qV (fun x hx=>bJ hx (by simp only[db.st,aq];exact ld))) (aj _ _) ?_;clear T tb la V U ld;have e0:=yn (me 0 zo);generalize (rR (M+1) (dg O (M+1) Z) 0 J 0 zo)=ch;generalize (Q.cntF (M+1) (dg O (M+1) Z) (fI 0 J))=cn;repeat' first
  | (refine Tr.af (fun hc=>?_) (fun hc=>?_)<;>(try simp (disch:=omega) only[nV,nW] at hc)<;>(try (exfalso;omega)))
  | (refine Tr.ab ?_ ?_;· ((try simp (disch:=omega) only[nV,nW]);try omega))
  | (refine Tr.al ?_ ?_;· first | exact trivial | exact ⟨rfl,rfl⟩ | exact .inl rfl | exact .inr rfl | exact ⟨trivial,.inl rfl⟩ | exact ⟨trivial,.inr rfl⟩ | exact ⟨by assumption,.inl rfl⟩ | exact ⟨by assumption,.inr rfl⟩ | exact ⟨trivial,.inr (by rw[e0];rfl)⟩ | exact ⟨by assumption,.inr (by rw[e0];rfl)⟩)
  | fail
 all_goals first
  | exact Tr.ag ⟨rfl,rfl⟩
  | fail
set_option maxHeartbeats 4000000 in
theorem I5 (h0:bL O (M+1) Z 0 J=0) (hmo:0≤20) (hwh:0≤wh∧wh≤255) (hx:bL O (M+1) (bG O (M+1) Z) 0 (bM 0 J)=0) (ho:wA O (M+1) Z 0 J=none):cd (n+19) (.fn 11) [bj O (M+1) Z 0 J,aF 0 zo false,.int .u8 wh] H=some (.bool true,H):=by
 obtain ⟨k1,k2,k3,k4,k5,k6⟩:=ke h0;obtain ⟨k,hk⟩:∃ k:Int,wh % ((M+1:Nat):Int)=k:=⟨_,rfl⟩
 have ek:=IA (M:=M) hwh;rw[hk] at ek;have hkb:0≤k∧k<((M+1:Nat):Int):=⟨by rw[← hk];exact Int.emod_nonneg _ wO,by rw[← hk];exact Int.emod_lt_of_pos _ wO⟩
 have eu:=A7 (M:=M) k3 k1.2;obtain ⟨up,hup⟩:∃ up:Int,(((M+1:Nat):Int)-1)*O+1000=up:=⟨_,rfl⟩
 have em:aV .i64 (ofNat 0) (ofNat 1)=((0:Nat):Int)-1-((0:Nat):Int):=by simp (disch:=omega) only[nV,nW];omega
 have la:=y8 (n+16) O (M+1) Z 0 J H 0 zo k k1.2 k4 k3;have V:=y9 (n+16) O (M+1) Z 0 J H 0 zo k k2 M (bG O (M+1) Z);have U:=Dq (n+16) O (M+1) Z 0 J H 0 zo k (bG O (M+1) Z) (bM 0 J) M 0 hmo;have hpi:=fun j hj=>DU O (M+1) Z 0 J k.toNat j hj;have hple:=DV O (M+1) Z 0 J k.toNat
 have ld:=P2 (n+16) (M+1) ((hJ O (M+1) Z 0 J k.toNat).length) (eZ [bj O (M+1) Z 0 J,.int .i64 k]) (eZ [bj O (M+1) (bG O (M+1) Z) 0 (bM 0 J),.int .i64 k]) H (0,.row (.G [.int .i64 O,slA 4 (M+1) Z,slA 2 0 J])) (0,.row (.G [.int .i64 O,slA 4 (M+1) (bG O (M+1) Z),slA 2 0 (bM 0 J)])) (M,.dead) k1.2 wO (fun j hj=>⟨(hpi j hj).1,by have h:=(hpi j hj).2;exact Int.le_trans (Int.le_of_lt h) wO⟩) (fun j hj=>El O (M+1) Z 0 J h0 hx (c:=k.toNat) wO j hj);have tb:=fun q=>A6 O (M+1) Z 0 J 0 zo k n h0 hkb wO (fun x=>.tup [aF ((hJ O (M+1) Z 0 J k.toNat).length) (eZ x) false,.int .i64 (ofNat 0)]) True (fun _=>hx) (fun _=>Ka O (M+1) Z 0 J k h0 hx hkb ho) q;have T:=OD (n+16) O (M+1) Z 0 J H 0 zo wh k up (((0:Nat):Int)-1-((0:Nat):Int)) (((0:Nat):Int)-1-((0:Nat):Int)) M 0 0 ((M+1)*4) 0 (bG O (M+1) Z) (bM 0 J) (qX (me 0 zo) 0) (yc O (M+1) Z 0 J) (fun x=>True∧yc O (M+1) Z 0 J x) (fun x=>True∧II O (M+1) Z 0 J k x) (fun x=>True∧IJ O (M+1) Z 0 J 0 zo x) eG (fun _=>(rR (M+1) (dg O (M+1) Z) 0 J 0 zo)) (Q.cntF (M+1) (dg O (M+1) Z) (fI 0 J)) ((hJ O (M+1) Z 0 J k.toNat).length) ((hJ O (M+1) Z 0 J k.toNat).length) (eZ [bj O (M+1) Z 0 J,.int .i64 k]) (eZ [bj O (M+1) (bG O (M+1) Z) 0 (bM 0 J),.int .i64 k]) (fun _=>(hJ O (M+1) Z 0 J k.toNat).length) eZ;rw[hup] at eu la;rw[ek,eu,em,bU] at T;refine bF (n:=n+18) Tryd.func11 rfl rfl rfl T (ir _ (n+16) 2 tb) (az (az (az (az (ai _ _) qS (fun x hx=>bJ hx (by simp only[db.st,aq];exact la))) qT (fun x hx=>bJ hx (by simp only[db.st,aq];exact V))) qU (fun x hx=>bJ hx (by simp only[db.st,aq];exact U))) qV (fun x hx=>bJ hx (by simp only[db.st,aq];exact ld))) (aj _ _) ?_;clear T tb la V U ld;have e0:=yn (me 0 zo);generalize (rR (M+1) (dg O (M+1) Z) 0 J 0 zo)=ch;generalize (Q.cntF (M+1) (dg O (M+1) Z) (fI 0 J))=cn;generalize (hJ O (M+1) Z 0 J k.toNat).length=a at *;repeat' first
  | (refine Tr.af (fun hc=>?_) (fun hc=>?_)<;>(try simp (disch:=omega) only[nV,nW] at hc)<;>(try (exfalso;omega)))
  | (refine Tr.ab ?_ ?_;· ((try simp (disch:=omega) only[nV,nW]);try omega))
  | (refine Tr.al ?_ ?_;· first | exact trivial | exact ⟨rfl,rfl⟩ | exact .inl rfl | exact .inr rfl | exact ⟨trivial,.inl rfl⟩ | exact ⟨trivial,.inr rfl⟩ | exact ⟨by assumption,.inl rfl⟩ | exact ⟨by assumption,.inr rfl⟩ | exact ⟨trivial,.inr (by rw[e0];rfl)⟩ | exact ⟨by assumption,.inr (by rw[e0];rfl)⟩)
  | fail
 all_goals first
  | exact Tr.ag ⟨rfl,rfl⟩
  | fail
set_option maxHeartbeats 4000000 in
theorem I6 (w:Nat) (h0:bL O (M+1) Z 0 J=0) (hmo:(w+1)≤20) (hwh:0≤wh∧wh≤255) (hn:¬ (bL O (M+1) (bG O (M+1) Z) 0 (bM 0 J)=0∧wA O (M+1) Z 0 J=none)):cd (n+19) (.fn 11) [bj O (M+1) Z 0 J,aF (w+1) zo false,.int .u8 wh] H=some (.bool true,H):=by
 obtain ⟨k1,k2,k3,k4,k5,k6⟩:=ke h0;obtain ⟨k,hk⟩:∃ k:Int,wh % ((M+1:Nat):Int)=k:=⟨_,rfl⟩
 have ek:=IA (M:=M) hwh;rw[hk] at ek;have hkb:0≤k∧k<((M+1:Nat):Int):=⟨by rw[← hk];exact Int.emod_nonneg _ wO,by rw[← hk];exact Int.emod_lt_of_pos _ wO⟩
 have eu:=A7 (M:=M) k3 k1.2;obtain ⟨up,hup⟩:∃ up:Int,(((M+1:Nat):Int)-1)*O+1000=up:=⟨_,rfl⟩
 have em:aV .i64 (ofNat (w+1)) (ofNat 1)=(((w+1):Nat):Int)-1-((0:Nat):Int):=by simp (disch:=omega) only[nV,nW];omega
 have la:=y8 (n+16) O (M+1) Z 0 J H (w+1) zo k k1.2 k4 k3;have V:=y9 (n+16) O (M+1) Z 0 J H (w+1) zo k k2 M (bG O (M+1) Z);have U:=Dq (n+16) O (M+1) Z 0 J H (w+1) zo k (bG O (M+1) Z) (bM 0 J) M 0 hmo;have ld:=Ll (n+16) (M+1) H (0,.row (.G [.int .i64 O,slA 4 (M+1) Z,slA 2 0 J])) (0,.row (.G [.int .i64 O,slA 4 (M+1) (bG O (M+1) Z),slA 2 0 (bM 0 J)])) (M,.dead) (w,.dead);have tb:=fun q=>A6 O (M+1) Z 0 J (w+1) zo k n h0 hkb wO (fun x=>.tup [.nils,.int .i64 (ofNat 13)]) (bL O (M+1) (bG O (M+1) Z) 0 (bM 0 J)=0) (fun h=>h) (fun h=>Kb O (M+1) Z 0 J k h0 h hkb (fun ho=>hn ⟨h,ho⟩)) q;have T:=OE (n+16) O (M+1) Z 0 J H (w+1) zo wh k up ((((w+1):Nat):Int)-1-((0:Nat):Int)) ((((w+1):Nat):Int)-1-(((w+1):Nat):Int)) M 0 w ((M+1)*4) (w+1) (bG O (M+1) Z) (bM 0 J) (qX (me (w+1) zo) (w+1)) (yc O (M+1) Z 0 J) (fun x=>(bL O (M+1) (bG O (M+1) Z) 0 (bM 0 J)=0)∧yc O (M+1) Z 0 J x) (fun x=>(bL O (M+1) (bG O (M+1) Z) 0 (bM 0 J)=0)∧II O (M+1) Z 0 J k x) (fun x=>(bL O (M+1) (bG O (M+1) Z) 0 (bM 0 J)=0)∧IJ O (M+1) Z 0 J (w+1) zo x) eG (fun _=>(rR (M+1) (dg O (M+1) Z) 0 J (w+1) zo)) (Q.cntF (M+1) (dg O (M+1) Z) (fI 0 J));rw[hup] at eu la;rw[ek,eu,em,bU,bU] at T;refine bF (n:=n+18) Tryd.func11 rfl rfl rfl T (ir _ (n+16) 2 tb) (az (az (az (az (ai _ _) qS (fun x hx=>bJ hx (by simp only[db.st,aq];exact la))) qT (fun x hx=>bJ hx (by simp only[db.st,aq];exact V))) qU (fun x hx=>bJ hx (by simp only[db.st,aq];exact U))) qV (fun x hx=>bJ hx (by simp only[db.st,aq];exact ld))) (aj _ _) ?_;clear T tb la V U ld;have e0:=yn (me 0 zo);generalize (rR (M+1) (dg O (M+1) Z) 0 J (w+1) zo)=ch;generalize (Q.cntF (M+1) (dg O (M+1) Z) (fI 0 J))=cn;repeat' first
  | (refine Tr.af (fun hc=>?_) (fun hc=>?_)<;>(try simp (disch:=omega) only[nV,nW] at hc)<;>(try (exfalso;omega)))
  | (refine Tr.ab ?_ ?_;· ((try simp (disch:=omega) only[nV,nW]);try omega))
  | (refine Tr.al ?_ ?_;· first | exact trivial | exact ⟨rfl,rfl⟩ | exact .inl rfl | exact .inr rfl | exact ⟨trivial,.inl rfl⟩ | exact ⟨trivial,.inr rfl⟩ | exact ⟨by assumption,.inl rfl⟩ | exact ⟨by assumption,.inr rfl⟩ | exact ⟨trivial,.inr (by rw[e0];rfl)⟩ | exact ⟨by assumption,.inr (by rw[e0];rfl)⟩)
  | fail
 all_goals first
  | exact Tr.ag ⟨rfl,rfl⟩
  | fail
set_option maxHeartbeats 4000000 in
theorem I7 (w:Nat) (h0:bL O (M+1) Z 0 J=0) (hmo:(w+1)≤20) (hwh:0≤wh∧wh≤255) (hx:bL O (M+1) (bG O (M+1) Z) 0 (bM 0 J)=0) (ho:wA O (M+1) Z 0 J=none):cd (n+19) (.fn 11) [bj O (M+1) Z 0 J,aF (w+1) zo false,.int .u8 wh] H=some (.bool true,H):=by
 obtain ⟨k1,k2,k3,k4,k5,k6⟩:=ke h0;obtain ⟨k,hk⟩:∃ k:Int,wh % ((M+1:Nat):Int)=k:=⟨_,rfl⟩
 have ek:=IA (M:=M) hwh;rw[hk] at ek;have hkb:0≤k∧k<((M+1:Nat):Int):=⟨by rw[← hk];exact Int.emod_nonneg _ wO,by rw[← hk];exact Int.emod_lt_of_pos _ wO⟩
 have eu:=A7 (M:=M) k3 k1.2;obtain ⟨up,hup⟩:∃ up:Int,(((M+1:Nat):Int)-1)*O+1000=up:=⟨_,rfl⟩
 have em:aV .i64 (ofNat (w+1)) (ofNat 1)=(((w+1):Nat):Int)-1-((0:Nat):Int):=by simp (disch:=omega) only[nV,nW];omega
 have la:=y8 (n+16) O (M+1) Z 0 J H (w+1) zo k k1.2 k4 k3;have V:=y9 (n+16) O (M+1) Z 0 J H (w+1) zo k k2 M (bG O (M+1) Z);have U:=Dq (n+16) O (M+1) Z 0 J H (w+1) zo k (bG O (M+1) Z) (bM 0 J) M 0 hmo;have hpi:=fun j hj=>DU O (M+1) Z 0 J k.toNat j hj;have hple:=DV O (M+1) Z 0 J k.toNat
 have ld:=Lh (n+16) (M+1) ((hJ O (M+1) Z 0 J k.toNat).length) (eZ [bj O (M+1) Z 0 J,.int .i64 k]) (eZ [bj O (M+1) (bG O (M+1) Z) 0 (bM 0 J),.int .i64 k]) H (0,.row (.G [.int .i64 O,slA 4 (M+1) Z,slA 2 0 J])) (0,.row (.G [.int .i64 O,slA 4 (M+1) (bG O (M+1) Z),slA 2 0 (bM 0 J)])) (M,.dead) (w,.dead) k1.2 wO (fun j hj=>⟨(hpi j hj).1,by have h:=(hpi j hj).2;exact Int.le_trans (Int.le_of_lt h) wO⟩) (fun j hj=>El O (M+1) Z 0 J h0 hx (c:=k.toNat) wO j hj);have tb:=fun q=>A6 O (M+1) Z 0 J (w+1) zo k n h0 hkb wO (fun x=>.tup [aF ((hJ O (M+1) Z 0 J k.toNat).length) (eZ x) false,.int .i64 (ofNat 0)]) True (fun _=>hx) (fun _=>Ka O (M+1) Z 0 J k h0 hx hkb ho) q;have T:=OF (n+16) O (M+1) Z 0 J H (w+1) zo wh k up ((((w+1):Nat):Int)-1-((0:Nat):Int)) ((((w+1):Nat):Int)-1-(((w+1):Nat):Int)) M 0 w ((M+1)*4) (w+1) (bG O (M+1) Z) (bM 0 J) (qX (me (w+1) zo) (w+1)) (yc O (M+1) Z 0 J) (fun x=>True∧yc O (M+1) Z 0 J x) (fun x=>True∧II O (M+1) Z 0 J k x) (fun x=>True∧IJ O (M+1) Z 0 J (w+1) zo x) eG (fun _=>(rR (M+1) (dg O (M+1) Z) 0 J (w+1) zo)) (Q.cntF (M+1) (dg O (M+1) Z) (fI 0 J)) ((hJ O (M+1) Z 0 J k.toNat).length) ((hJ O (M+1) Z 0 J k.toNat).length) (eZ [bj O (M+1) Z 0 J,.int .i64 k]) (eZ [bj O (M+1) (bG O (M+1) Z) 0 (bM 0 J),.int .i64 k]) (fun _=>(hJ O (M+1) Z 0 J k.toNat).length) eZ;rw[hup] at eu la;rw[ek,eu,em,bU,bU] at T;refine bF (n:=n+18) Tryd.func11 rfl rfl rfl T (ir _ (n+16) 2 tb) (az (az (az (az (ai _ _) qS (fun x hx=>bJ hx (by simp only[db.st,aq];exact la))) qT (fun x hx=>bJ hx (by simp only[db.st,aq];exact V))) qU (fun x hx=>bJ hx (by simp only[db.st,aq];exact U))) qV (fun x hx=>bJ hx (by simp only[db.st,aq];exact ld))) (aj _ _) ?_;clear T tb la V U ld;have e0:=yn (me 0 zo);generalize (rR (M+1) (dg O (M+1) Z) 0 J (w+1) zo)=ch;generalize (Q.cntF (M+1) (dg O (M+1) Z) (fI 0 J))=cn;generalize (hJ O (M+1) Z 0 J k.toNat).length=a at *;repeat' first
  | (refine Tr.af (fun hc=>?_) (fun hc=>?_)<;>(try simp (disch:=omega) only[nV,nW] at hc)<;>(try (exfalso;omega)))
  | (refine Tr.ab ?_ ?_;· ((try simp (disch:=omega) only[nV,nW]);try omega))
  | (refine Tr.al ?_ ?_;· first | exact trivial | exact ⟨rfl,rfl⟩ | exact .inl rfl | exact .inr rfl | exact ⟨trivial,.inl rfl⟩ | exact ⟨trivial,.inr rfl⟩ | exact ⟨by assumption,.inl rfl⟩ | exact ⟨by assumption,.inr rfl⟩ | exact ⟨trivial,.inr (by rw[e0];rfl)⟩ | exact ⟨by assumption,.inr (by rw[e0];rfl)⟩)
  | fail
 all_goals first
  | exact Tr.ag ⟨rfl,rfl⟩
  | fail
set_option maxHeartbeats 4000000 in
theorem I8 (u:Nat) (h0:bL O (M+1) Z (u+1) J=0) (hmo:0≤20) (hwh:0≤wh∧wh≤255) (hn:¬ (bL O (M+1) (bG O (M+1) Z) (u+1) (bM (u+1) J)=0∧wA O (M+1) Z (u+1) J=none)):cd (n+19) (.fn 11) [bj O (M+1) Z (u+1) J,aF 0 zo false,.int .u8 wh] H=some (.bool true,H):=by
 obtain ⟨k1,k2,k3,k4,k5,k6⟩:=ke h0;obtain ⟨k,hk⟩:∃ k:Int,wh % ((M+1:Nat):Int)=k:=⟨_,rfl⟩
 have ek:=IA (M:=M) hwh;rw[hk] at ek;have hkb:0≤k∧k<((M+1:Nat):Int):=⟨by rw[← hk];exact Int.emod_nonneg _ wO,by rw[← hk];exact Int.emod_lt_of_pos _ wO⟩
 have eu:=A7 (M:=M) k3 k1.2;obtain ⟨up,hup⟩:∃ up:Int,(((M+1:Nat):Int)-1)*O+1000=up:=⟨_,rfl⟩
 have em:aV .i64 (ofNat 0) (ofNat 1)=((0:Nat):Int)-1-((0:Nat):Int):=by simp (disch:=omega) only[nV,nW];omega
 have la:=y8 (n+16) O (M+1) Z (u+1) J H 0 zo k k1.2 k4 k3;have V:=y9 (n+16) O (M+1) Z (u+1) J H 0 zo k k2 M (bG O (M+1) Z);have U:=Dr (n+16) O (M+1) Z (u+1) J H 0 zo k (bG O (M+1) Z) (bM (u+1) J) M u hmo;have ld:=Ll (n+16) (M+1) H (0,.row (.G [.int .i64 O,slA 4 (M+1) Z,slA 2 (u+1) J])) (0,.row (.G [.int .i64 O,slA 4 (M+1) (bG O (M+1) Z),slA 2 (u+1) (bM (u+1) J)])) (M,.dead) (u,.dead);have tb:=fun q=>A6 O (M+1) Z (u+1) J 0 zo k n h0 hkb wO (fun x=>.tup [.nils,.int .i64 (ofNat 13)]) (bL O (M+1) (bG O (M+1) Z) (u+1) (bM (u+1) J)=0) (fun h=>h) (fun h=>Kb O (M+1) Z (u+1) J k h0 h hkb (fun ho=>hn ⟨h,ho⟩)) q;have T:=OG (n+16) O (M+1) Z (u+1) J H 0 zo wh k up (((0:Nat):Int)-1-((0:Nat):Int)) (((0:Nat):Int)-1-((0:Nat):Int)) M u 0 ((M+1)*4) 0 (bG O (M+1) Z) (bM (u+1) J) (qX (me 0 zo) 0) (yc O (M+1) Z (u+1) J) (fun x=>(bL O (M+1) (bG O (M+1) Z) (u+1) (bM (u+1) J)=0)∧yc O (M+1) Z (u+1) J x) (fun x=>(bL O (M+1) (bG O (M+1) Z) (u+1) (bM (u+1) J)=0)∧II O (M+1) Z (u+1) J k x) (fun x=>(bL O (M+1) (bG O (M+1) Z) (u+1) (bM (u+1) J)=0)∧IJ O (M+1) Z (u+1) J 0 zo x) eG (fun _=>(rR (M+1) (dg O (M+1) Z) (u+1) J 0 zo)) (Q.cntF (M+1) (dg O (M+1) Z) (fI (u+1) J));rw[hup] at eu la;rw[ek,eu,em,bU] at T;refine bF (n:=n+18) Tryd.func11 rfl rfl rfl T (ir _ (n+16) 2 tb) (az (az (az (az (ai _ _) qS (fun x hx=>bJ hx (by simp only[db.st,aq];exact la))) qT (fun x hx=>bJ hx (by simp only[db.st,aq];exact V))) qU (fun x hx=>bJ hx (by simp only[db.st,aq];exact U))) qV (fun x hx=>bJ hx (by simp only[db.st,aq];exact ld))) (aj _ _) ?_;clear T tb la V U ld;have e0:=yn (me 0 zo);generalize (rR (M+1) (dg O (M+1) Z) (u+1) J 0 zo)=ch;generalize (Q.cntF (M+1) (dg O (M+1) Z) (fI (u+1) J))=cn;repeat' first
  | (refine Tr.af (fun hc=>?_) (fun hc=>?_)<;>(try simp (disch:=omega) only[nV,nW] at hc)<;>(try (exfalso;omega)))
  | (refine Tr.ab ?_ ?_;· ((try simp (disch:=omega) only[nV,nW]);try omega))
  | (refine Tr.al ?_ ?_;· first | exact trivial | exact ⟨rfl,rfl⟩ | exact .inl rfl | exact .inr rfl | exact ⟨trivial,.inl rfl⟩ | exact ⟨trivial,.inr rfl⟩ | exact ⟨by assumption,.inl rfl⟩ | exact ⟨by assumption,.inr rfl⟩ | exact ⟨trivial,.inr (by rw[e0];rfl)⟩ | exact ⟨by assumption,.inr (by rw[e0];rfl)⟩)
  | fail
 all_goals first
  | exact Tr.ag ⟨rfl,rfl⟩
  | fail
set_option maxHeartbeats 4000000 in
theorem I9 (u:Nat) (h0:bL O (M+1) Z (u+1) J=0) (hmo:0≤20) (hwh:0≤wh∧wh≤255) (hx:bL O (M+1) (bG O (M+1) Z) (u+1) (bM (u+1) J)=0) (ho:wA O (M+1) Z (u+1) J=none):cd (n+19) (.fn 11) [bj O (M+1) Z (u+1) J,aF 0 zo false,.int .u8 wh] H=some (.bool true,H):=by
 obtain ⟨k1,k2,k3,k4,k5,k6⟩:=ke h0;obtain ⟨k,hk⟩:∃ k:Int,wh % ((M+1:Nat):Int)=k:=⟨_,rfl⟩
 have ek:=IA (M:=M) hwh;rw[hk] at ek;have hkb:0≤k∧k<((M+1:Nat):Int):=⟨by rw[← hk];exact Int.emod_nonneg _ wO,by rw[← hk];exact Int.emod_lt_of_pos _ wO⟩
 have eu:=A7 (M:=M) k3 k1.2;obtain ⟨up,hup⟩:∃ up:Int,(((M+1:Nat):Int)-1)*O+1000=up:=⟨_,rfl⟩
 have em:aV .i64 (ofNat 0) (ofNat 1)=((0:Nat):Int)-1-((0:Nat):Int):=by simp (disch:=omega) only[nV,nW];omega
 have la:=y8 (n+16) O (M+1) Z (u+1) J H 0 zo k k1.2 k4 k3;have V:=y9 (n+16) O (M+1) Z (u+1) J H 0 zo k k2 M (bG O (M+1) Z);have U:=Dr (n+16) O (M+1) Z (u+1) J H 0 zo k (bG O (M+1) Z) (bM (u+1) J) M u hmo;have hpi:=fun j hj=>DU O (M+1) Z (u+1) J k.toNat j hj;have hple:=DV O (M+1) Z (u+1) J k.toNat
 have ld:=Lh (n+16) (M+1) ((hJ O (M+1) Z (u+1) J k.toNat).length) (eZ [bj O (M+1) Z (u+1) J,.int .i64 k]) (eZ [bj O (M+1) (bG O (M+1) Z) (u+1) (bM (u+1) J),.int .i64 k]) H (0,.row (.G [.int .i64 O,slA 4 (M+1) Z,slA 2 (u+1) J])) (0,.row (.G [.int .i64 O,slA 4 (M+1) (bG O (M+1) Z),slA 2 (u+1) (bM (u+1) J)])) (M,.dead) (u,.dead) k1.2 wO (fun j hj=>⟨(hpi j hj).1,by have h:=(hpi j hj).2;exact Int.le_trans (Int.le_of_lt h) wO⟩) (fun j hj=>El O (M+1) Z (u+1) J h0 hx (c:=k.toNat) wO j hj);have tb:=fun q=>A6 O (M+1) Z (u+1) J 0 zo k n h0 hkb wO (fun x=>.tup [aF ((hJ O (M+1) Z (u+1) J k.toNat).length) (eZ x) false,.int .i64 (ofNat 0)]) True (fun _=>hx) (fun _=>Ka O (M+1) Z (u+1) J k h0 hx hkb ho) q;have T:=OH (n+16) O (M+1) Z (u+1) J H 0 zo wh k up (((0:Nat):Int)-1-((0:Nat):Int)) (((0:Nat):Int)-1-((0:Nat):Int)) M u 0 ((M+1)*4) 0 (bG O (M+1) Z) (bM (u+1) J) (qX (me 0 zo) 0) (yc O (M+1) Z (u+1) J) (fun x=>True∧yc O (M+1) Z (u+1) J x) (fun x=>True∧II O (M+1) Z (u+1) J k x) (fun x=>True∧IJ O (M+1) Z (u+1) J 0 zo x) eG (fun _=>(rR (M+1) (dg O (M+1) Z) (u+1) J 0 zo)) (Q.cntF (M+1) (dg O (M+1) Z) (fI (u+1) J)) ((hJ O (M+1) Z (u+1) J k.toNat).length) ((hJ O (M+1) Z (u+1) J k.toNat).length) (eZ [bj O (M+1) Z (u+1) J,.int .i64 k]) (eZ [bj O (M+1) (bG O (M+1) Z) (u+1) (bM (u+1) J),.int .i64 k]) (fun _=>(hJ O (M+1) Z (u+1) J k.toNat).length) eZ;rw[hup] at eu la;rw[ek,eu,em,bU] at T;refine bF (n:=n+18) Tryd.func11 rfl rfl rfl T (ir _ (n+16) 2 tb) (az (az (az (az (ai _ _) qS (fun x hx=>bJ hx (by simp only[db.st,aq];exact la))) qT (fun x hx=>bJ hx (by simp only[db.st,aq];exact V))) qU (fun x hx=>bJ hx (by simp only[db.st,aq];exact U))) qV (fun x hx=>bJ hx (by simp only[db.st,aq];exact ld))) (aj _ _) ?_;clear T tb la V U ld;have e0:=yn (me 0 zo);generalize (rR (M+1) (dg O (M+1) Z) (u+1) J 0 zo)=ch;generalize (Q.cntF (M+1) (dg O (M+1) Z) (fI (u+1) J))=cn;generalize (hJ O (M+1) Z (u+1) J k.toNat).length=a at *;repeat' first
  | (refine Tr.af (fun hc=>?_) (fun hc=>?_)<;>(try simp (disch:=omega) only[nV,nW] at hc)<;>(try (exfalso;omega)))
  | (refine Tr.ab ?_ ?_;· ((try simp (disch:=omega) only[nV,nW]);try omega))
  | (refine Tr.al ?_ ?_;· first | exact trivial | exact ⟨rfl,rfl⟩ | exact .inl rfl | exact .inr rfl | exact ⟨trivial,.inl rfl⟩ | exact ⟨trivial,.inr rfl⟩ | exact ⟨by assumption,.inl rfl⟩ | exact ⟨by assumption,.inr rfl⟩ | exact ⟨trivial,.inr (by rw[e0];rfl)⟩ | exact ⟨by assumption,.inr (by rw[e0];rfl)⟩)
  | fail
 all_goals first
  | exact Tr.ag ⟨rfl,rfl⟩
  | fail
set_option maxHeartbeats 4000000 in
theorem Ja (u w:Nat) (h0:bL O (M+1) Z (u+1) J=0) (hmo:(w+1)≤20) (hwh:0≤wh∧wh≤255) (hn:¬ (bL O (M+1) (bG O (M+1) Z) (u+1) (bM (u+1) J)=0∧wA O (M+1) Z (u+1) J=none)):cd (n+19) (.fn 11) [bj O (M+1) Z (u+1) J,aF (w+1) zo false,.int .u8 wh] H=some (.bool true,H):=by
 obtain ⟨k1,k2,k3,k4,k5,k6⟩:=ke h0;obtain ⟨k,hk⟩:∃ k:Int,wh % ((M+1:Nat):Int)=k:=⟨_,rfl⟩
 have ek:=IA (M:=M) hwh;rw[hk] at ek;have hkb:0≤k∧k<((M+1:Nat):Int):=⟨by rw[← hk];exact Int.emod_nonneg _ wO,by rw[← hk];exact Int.emod_lt_of_pos _ wO⟩
 have eu:=A7 (M:=M) k3 k1.2;obtain ⟨up,hup⟩:∃ up:Int,(((M+1:Nat):Int)-1)*O+1000=up:=⟨_,rfl⟩
 have em:aV .i64 (ofNat (w+1)) (ofNat 1)=(((w+1):Nat):Int)-1-((0:Nat):Int):=by simp (disch:=omega) only[nV,nW];omega
 have la:=y8 (n+16) O (M+1) Z (u+1) J H (w+1) zo k k1.2 k4 k3;have V:=y9 (n+16) O (M+1) Z (u+1) J H (w+1) zo k k2 M (bG O (M+1) Z);have U:=Dr (n+16) O (M+1) Z (u+1) J H (w+1) zo k (bG O (M+1) Z) (bM (u+1) J) M u hmo;have ld:=Qn (n+16) (M+1) H (0,.row (.G [.int .i64 O,slA 4 (M+1) Z,slA 2 (u+1) J])) (0,.row (.G [.int .i64 O,slA 4 (M+1) (bG O (M+1) Z),slA 2 (u+1) (bM (u+1) J)])) (M,.dead) (u,.dead) (w,.dead);have tb:=fun q=>A6 O (M+1) Z (u+1) J (w+1) zo k n h0 hkb wO (fun x=>.tup [.nils,.int .i64 (ofNat 13)]) (bL O (M+1) (bG O (M+1) Z) (u+1) (bM (u+1) J)=0) (fun h=>h) (fun h=>Kb O (M+1) Z (u+1) J k h0 h hkb (fun ho=>hn ⟨h,ho⟩)) q;have T:=OI (n+16) O (M+1) Z (u+1) J H (w+1) zo wh k up ((((w+1):Nat):Int)-1-((0:Nat):Int)) ((((w+1):Nat):Int)-1-(((w+1):Nat):Int)) M u w ((M+1)*4) (w+1) (bG O (M+1) Z) (bM (u+1) J) (qX (me (w+1) zo) (w+1)) (yc O (M+1) Z (u+1) J) (fun x=>(bL O (M+1) (bG O (M+1) Z) (u+1) (bM (u+1) J)=0)∧yc O (M+1) Z (u+1) J x) (fun x=>(bL O (M+1) (bG O (M+1) Z) (u+1) (bM (u+1) J)=0)∧II O (M+1) Z (u+1) J k x) (fun x=>(bL O (M+1) (bG O (M+1) Z) (u+1) (bM (u+1) J)=0)∧IJ O (M+1) Z (u+1) J (w+1) zo x) eG (fun _=>(rR (M+1) (dg O (M+1) Z) (u+1) J (w+1) zo)) (Q.cntF (M+1) (dg O (M+1) Z) (fI (u+1) J));rw[hup] at eu la;rw[ek,eu,em,bU,bU] at T;refine bF (n:=n+18) Tryd.func11 rfl rfl rfl T (ir _ (n+16) 2 tb) (az (az (az (az (ai _ _) qS (fun x hx=>bJ hx (by simp only[db.st,aq];exact la))) qT (fun x hx=>bJ hx (by simp only[db.st,aq];exact V))) qU (fun x hx=>bJ hx (by simp only[db.st,aq];exact U))) qV (fun x hx=>bJ hx (by simp only[db.st,aq];exact ld))) (aj _ _) ?_;clear T tb la V U ld;have e0:=yn (me 0 zo);generalize (rR (M+1) (dg O (M+1) Z) (u+1) J (w+1) zo)=ch;generalize (Q.cntF (M+1) (dg O (M+1) Z) (fI (u+1) J))=cn;repeat' first
  | (refine Tr.af (fun hc=>?_) (fun hc=>?_)<;>(try simp (disch:=omega) only[nV,nW] at hc)<;>(try (exfalso;omega)))
  | (refine Tr.ab ?_ ?_;· ((try simp (disch:=omega) only[nV,nW]);try omega))
  | (refine Tr.al ?_ ?_;· first | exact trivial | exact ⟨rfl,rfl⟩ | exact .inl rfl | exact .inr rfl | exact ⟨trivial,.inl rfl⟩ | exact ⟨trivial,.inr rfl⟩ | exact ⟨by assumption,.inl rfl⟩ | exact ⟨by assumption,.inr rfl⟩ | exact ⟨trivial,.inr (by rw[e0];rfl)⟩ | exact ⟨by assumption,.inr (by rw[e0];rfl)⟩)
  | fail
 all_goals first
  | exact Tr.ag ⟨rfl,rfl⟩
  | fail
set_option maxHeartbeats 4000000 in
theorem Jb (u w:Nat) (h0:bL O (M+1) Z (u+1) J=0) (hmo:(w+1)≤20) (hwh:0≤wh∧wh≤255) (hx:bL O (M+1) (bG O (M+1) Z) (u+1) (bM (u+1) J)=0) (ho:wA O (M+1) Z (u+1) J=none):cd (n+19) (.fn 11) [bj O (M+1) Z (u+1) J,aF (w+1) zo false,.int .u8 wh] H=some (.bool true,H):=by
 obtain ⟨k1,k2,k3,k4,k5,k6⟩:=ke h0;obtain ⟨k,hk⟩:∃ k:Int,wh % ((M+1:Nat):Int)=k:=⟨_,rfl⟩
 have ek:=IA (M:=M) hwh;rw[hk] at ek;have hkb:0≤k∧k<((M+1:Nat):Int):=⟨by rw[← hk];exact Int.emod_nonneg _ wO,by rw[← hk];exact Int.emod_lt_of_pos _ wO⟩
 have eu:=A7 (M:=M) k3 k1.2;obtain ⟨up,hup⟩:∃ up:Int,(((M+1:Nat):Int)-1)*O+1000=up:=⟨_,rfl⟩
 have em:aV .i64 (ofNat (w+1)) (ofNat 1)=(((w+1):Nat):Int)-1-((0:Nat):Int):=by simp (disch:=omega) only[nV,nW];omega
 have la:=y8 (n+16) O (M+1) Z (u+1) J H (w+1) zo k k1.2 k4 k3;have V:=y9 (n+16) O (M+1) Z (u+1) J H (w+1) zo k k2 M (bG O (M+1) Z);have U:=Dr (n+16) O (M+1) Z (u+1) J H (w+1) zo k (bG O (M+1) Z) (bM (u+1) J) M u hmo;have hpi:=fun j hj=>DU O (M+1) Z (u+1) J k.toNat j hj;have hple:=DV O (M+1) Z (u+1) J k.toNat
 have ld:=P3 (n+16) (M+1) ((hJ O (M+1) Z (u+1) J k.toNat).length) (eZ [bj O (M+1) Z (u+1) J,.int .i64 k]) (eZ [bj O (M+1) (bG O (M+1) Z) (u+1) (bM (u+1) J),.int .i64 k]) H (0,.row (.G [.int .i64 O,slA 4 (M+1) Z,slA 2 (u+1) J])) (0,.row (.G [.int .i64 O,slA 4 (M+1) (bG O (M+1) Z),slA 2 (u+1) (bM (u+1) J)])) (M,.dead) (u,.dead) (w,.dead) k1.2 wO (fun j hj=>⟨(hpi j hj).1,by have h:=(hpi j hj).2;exact Int.le_trans (Int.le_of_lt h) wO⟩) (fun j hj=>El O (M+1) Z (u+1) J h0 hx (c:=k.toNat) wO j hj);have tb:=fun q=>A6 O (M+1) Z (u+1) J (w+1) zo k n h0 hkb wO (fun x=>.tup [aF ((hJ O (M+1) Z (u+1) J k.toNat).length) (eZ x) false,.int .i64 (ofNat 0)]) True (fun _=>hx) (fun _=>Ka O (M+1) Z (u+1) J k h0 hx hkb ho) q;have T:=OJ (n+16) O (M+1) Z (u+1) J H (w+1) zo wh k up ((((w+1):Nat):Int)-1-((0:Nat):Int)) ((((w+1):Nat):Int)-1-(((w+1):Nat):Int)) M u w ((M+1)*4) (w+1) (bG O (M+1) Z) (bM (u+1) J) (qX (me (w+1) zo) (w+1)) (yc O (M+1) Z (u+1) J) (fun x=>True∧yc O (M+1) Z (u+1) J x) (fun x=>True∧II O (M+1) Z (u+1) J k x) (fun x=>True∧IJ O (M+1) Z (u+1) J (w+1) zo x) eG (fun _=>(rR (M+1) (dg O (M+1) Z) (u+1) J (w+1) zo)) (Q.cntF (M+1) (dg O (M+1) Z) (fI (u+1) J)) ((hJ O (M+1) Z (u+1) J k.toNat).length) ((hJ O (M+1) Z (u+1) J k.toNat).length) (eZ [bj O (M+1) Z (u+1) J,.int .i64 k]) (eZ [bj O (M+1) (bG O (M+1) Z) (u+1) (bM (u+1) J),.int .i64 k]) (fun _=>(hJ O (M+1) Z (u+1) J k.toNat).length) eZ;rw[hup] at eu la;rw[ek,eu,em,bU,bU] at T;refine bF (n:=n+18) Tryd.func11 rfl rfl rfl T (ir _ (n+16) 2 tb) (az (az (az (az (ai _ _) qS (fun x hx=>bJ hx (by simp only[db.st,aq];exact la))) qT (fun x hx=>bJ hx (by simp only[db.st,aq];exact V))) qU (fun x hx=>bJ hx (by simp only[db.st,aq];exact U))) qV (fun x hx=>bJ hx (by simp only[db.st,aq];exact ld))) (aj _ _) ?_;clear T tb la V U ld;have e0:=yn (me 0 zo);generalize (rR (M+1) (dg O (M+1) Z) (u+1) J (w+1) zo)=ch;generalize (Q.cntF (M+1) (dg O (M+1) Z) (fI (u+1) J))=cn;generalize (hJ O (M+1) Z (u+1) J k.toNat).length=a at *;repeat' first
  | (refine Tr.af (fun hc=>?_) (fun hc=>?_)<;>(try simp (disch:=omega) only[nV,nW] at hc)<;>(try (exfalso;omega)))
  | (refine Tr.ab ?_ ?_;· ((try simp (disch:=omega) only[nV,nW]);try omega))
  | (refine Tr.al ?_ ?_;· first | exact trivial | exact ⟨rfl,rfl⟩ | exact .inl rfl | exact .inr rfl | exact ⟨trivial,.inl rfl⟩ | exact ⟨trivial,.inr rfl⟩ | exact ⟨by assumption,.inl rfl⟩ | exact ⟨by assumption,.inr rfl⟩ | exact ⟨trivial,.inr (by rw[e0];rfl)⟩ | exact ⟨by assumption,.inr (by rw[e0];rfl)⟩)
  | fail
 all_goals first
  | exact Tr.ag ⟨rfl,rfl⟩
  | fail
end
section
variable (O:Int) (U:Nat) (Z:Nat→Int) (V:Nat) (J:Nat→Int) (n:Nat) (H:aa) (wh:Int) (mo:Nat) (zo:Nat→Int)
theorem Wb (hwh:0≤wh∧wh≤255):cd (n+19) (.fn 11) [bj O U Z V J,aF mo zo false,.int .u8 wh] H=some (.bool true,H):=by
 by_cases hg:bL O U Z V J=0∧mo≤20
 · obtain ⟨h0,hmo⟩:=hg;obtain ⟨M,rfl⟩:∃ M,U=M+1:=⟨U-1,by have:=(ke h0).1.1;omega⟩
   by_cases hy:bL O (M+1) (bG O (M+1) Z) V (bM V J)=0∧wA O (M+1) Z V J=none
   · cases V with
     | zero=>cases mo with
       | zero=>exact I5 O M Z J n H wh zo h0 hmo hwh hy.1 hy.2
       | succ w=>exact I7 O M Z J n H wh zo w h0 hmo hwh hy.1 hy.2
     | succ u=>cases mo with
       | zero=>exact I9 O M Z J n H wh zo u h0 hmo hwh hy.1 hy.2
       | succ w=>exact Jb O M Z J n H wh zo u w h0 hmo hwh hy.1 hy.2
   · cases V with
     | zero=>cases mo with
       | zero=>exact I4 O M Z J n H wh zo h0 hmo hwh hy
       | succ w=>exact I6 O M Z J n H wh zo w h0 hmo hwh hy
     | succ u=>cases mo with
       | zero=>exact I8 O M Z J n H wh zo u h0 hmo hwh hy
       | succ w=>exact Ja O M Z J n H wh zo u w h0 hmo hwh hy
 · refine bF (n:=n+18) Tryd.func11 rfl rfl rfl (Uq (n+16) O U Z V J H mo zo wh (bL O U Z V J) (fun x=>x=[bj O U Z V J]∧U≤1000∧V≤1000)) (ir _ (n+16) 2 (fun q=>yI (VL wO (bp _)) (fun A H hA=>by
    obtain ⟨rfl,q1,q2⟩:=hA;rw[show n+16+q=n+13+q+3 by omega];exact VF (n+13+q) O U Z V J H q1 q2))) (c8 (ai _ _) 0) (aj _ _) ?_
   refine Tr.af (fun _=>Tr.al trivial (Tr.ag ⟨rfl,rfl⟩)) (fun r1=>Tr.af (fun r2=>Tr.al ⟨rfl,?_⟩ (Tr.af (fun _=>Tr.al trivial (Tr.ag ⟨rfl,rfl⟩)) (fun q=>Tr.af (fun _=>Tr.al trivial (Tr.ag ⟨rfl,rfl⟩)) (fun q2=>?_)))) (fun _=>Tr.al trivial (Tr.ag ⟨rfl,rfl⟩)))
   · simp (disch:=omega) only[nV,nW] at r1;simp (disch:=omega) only[nV,nW] at r2;omega
   · exfalso;rw[aH,bg] at q;have q:bL O U Z V J=0:=by simpa using q
     simp (disch:=omega) only[nV,nW] at q2;omega
end
end Go.Eng
end
section
namespace Go.Proofs.YtgphpjdchnfjlaaDoor
open Go.ChangeShapes Go.WideShapes Go.ChangeAt Go.RowKit
theorem Tryd.own:ownKnob Tryd.prog.godebug=none:=by kernel_rfl
def Cv:List (String×DataW Unit):=[("math/bits.deBruijn32tab",Rows.laid_math_bits_deBruijn32tab),("math/bits.deBruijn64tab",Rows.laid_math_bits_deBruijn64tab)]
def t32:List Int:=Go.Lib.deBruijn32tab.map fun n:Nat=>(n:Int)
def t64:List Int:=Go.Lib.deBruijn64tab.map fun n:Nat=>(n:Int)
theorem Rh:(Rows.laid_math_bits_deBruijn64tab:DataW Unit)=Lib.tabData .u8 t64:=by kernel_rfl
set_option maxRecDepth 100000 in
theorem GP {W:World} (h:laidMetH Tryd.prog Cv W):Eng.mh W:=by
 have h':laidMet Tryd.prog Cv W:=h;obtain ⟨ps,hv,_⟩:=h';obtain ⟨_,_,_,_,_,_,_,_,_,_,hv,_⟩:=hv;obtain ⟨g,t,cs,fuel,p,q,h1,h2,h3,h4,_⟩:=hv;obtain rfl:1=g:=Option.some.inj ((show Tryd.prog.globalNamed "math/bits.deBruijn64tab" = some 1 by kernel_rfl).symm.trans h1);obtain rfl:139=t:=Option.some.inj ((show (Tryd.prog.globals[1]?).map (·.type)=some 139 by kernel_rfl).symm.trans h2);rw[Rh] at h4;have hcs:=Lib.cells_of_tab Tryd.underlying139 Tryd.underlying5 (by kernel_rfl) (by kernel_rfl) h4;intro b o v hg;unfold Eng.pq at hg;split at hg
 · rename_i hbo;obtain ⟨rfl,ho⟩:=hbo;simp only[Option.some.injEq] at hg;subst hg;rw[World.var?_cell h1 h3 o,← Array.getElem?_toList,hcs,List.getElem?_map];have hl:Go.Lib.deBruijn64tab.length=64:=by decide
   rw[t64,List.getElem?_map,List.getElem?_eq_getElem (by omega)];simp only[Option.map_some,List.getD_eq_getElem?_getD,List.getElem?_eq_getElem (show o<Go.Lib.deBruijn64tab.length by omega),Option.getD_some]
 · cases hg
noncomputable def qD (os:Os):World :=
 let w0:=World.holding Tryd.prog os ⟨#[],#[],[]⟩
 let put (h:Array Obj) (g:Nat) (cs:Array Value):Array Obj:=h.modify g fun
  | .cells _ t frozen=>.cells cs t frozen
  | o=>o
 { w0 with heap:=put (put w0.heap 0 (t32.map fun z=>Value.int .u8 z).toArray) 1 (t64.map fun z=>Value.int .u8 z).toArray }
theorem JF (os:Os) (args:Array Value):LaidIn Tryd.prog ((qD os).forCall (fun _ _=>0) ⟨#[],args,[]⟩).memory Cv [0,1] :=
 LaidIn.of_run [0,1] 8 (by kernel_rfl) (by kernel_rfl) (by kernel_rfl) (by kernel_rfl)
theorem G2 (os:Os) (args:Array Value):laidMetH Tryd.prog Cv ((qD os).forCall (fun _ _=>0) ⟨#[],args,[]⟩).memory:=(JF os args).met
end Go.Proofs.YtgphpjdchnfjlaaDoor
end
section
namespace Go.Eng.Gall
open Go.Proofs
def Q8:List cH:=[]
theorem D8:∀ e ∈ Q8,aG Tryd.prog e:=J0
def kf:List Int:=[100,110,60,110,90,95,75,100,120,125,80,110,80,80,70,200]
def FH:List Int:=[100,110,90,110,90,95,75,100,120,125,80,110,80,80,70,200]
def gR (a b w s:List Int):Row:=.G (.int .i64 10::.slcT none (.I .i64 a) 4 4 true::.slcT none (.I .i64 b) 2 1 true::(w.map (AV.int .i64)++s.map (AV.int .u64)))
def gA (a b:List Int):AV:=.agg (.G [.int .i64 10,.slcT none (.I .i64 a) 4 4 true,.slcT none (.I .i64 b) 2 1 true])
noncomputable def E1:cH:=⟨46,[],gA kf [3,1]⟩
theorem Yg:aG Tryd.prog E1:=a8 D8 (H':=[⟨true,[]⟩]) (by kernel_rfl) (by kernel_rfl)
noncomputable def Q9:List cH:=E1::Q8
theorem D9:∀ e ∈ Q9,aG Tryd.prog e:=a7 Yg D8
noncomputable def E2:cH:=⟨47,[],gA FH [3,1]⟩
theorem Yh:aG Tryd.prog E2:=a8 D9 (H':=[⟨true,[]⟩]) (by kernel_rfl) (by kernel_rfl)
noncomputable def Ra:List cH:=E2::Q9
theorem Ea:∀ e ∈ Ra,aG Tryd.prog e:=a7 Yh D9
noncomputable def E3:cH:=⟨22,[gA kf [3,1]],.int .i64 0⟩
theorem Yi:aG Tryd.prog E3:=a8 Ea (H':=[⟨true,[]⟩]) (by kernel_rfl) (by kernel_rfl)
noncomputable def Rb:List cH:=E3::Ra
theorem Eb:∀ e ∈ Rb,aG Tryd.prog e:=a7 Yi Ea
noncomputable def E4:cH:=⟨16,[gA kf [3,1],.int .i64 2,.int .i64 2],.tup [.agg (.I .i64 [100,105]),.int .i64 0]⟩
theorem Yj:aG Tryd.prog E4:=a8 Eb (H':=[⟨true,[]⟩]) (by kernel_rfl) (by kernel_rfl)
noncomputable def Rc:List cH:=E4::Rb
theorem Ec:∀ e ∈ Rc,aG Tryd.prog e:=a7 Yj Eb
end Go.Eng.Gall
end
section
namespace Go.Eng.Gall
open Go.Proofs
noncomputable def E5:cH:=⟨18,[gA kf [3,1],.int .i64 2],.tup [.agg (.I .i64 [2,3]),.int .i64 0]⟩
theorem Yk:aG Tryd.prog E5:=a8 Ec (H':=[⟨true,[]⟩]) (by kernel_rfl) (by kernel_rfl)
noncomputable def Re:List cH:=E5::Rc
theorem Ed:∀ e ∈ Re,aG Tryd.prog e:=a7 Yk Ec
noncomputable def E6:cH:=⟨56,[.ptrT none (gR kf [3,1] [0,3,0,1,2,3,0,1,0,0,0,0,0,0,0,0,0,0,0,0] [0,8,0,0,0,0,0,0,0,0]) 0],.agg (.I .i64 [0,3,1,1,2,3,0,0,0,0,0,0,0,0,0,0,0,0,0,0])⟩
theorem Yl:aG Tryd.prog E6:=a8 Ed (H':=[⟨true,[]⟩]) (by kernel_rfl) (by kernel_rfl)
noncomputable def Rg:List cH:=E6::Re
theorem Ee:∀ e ∈ Rg,aG Tryd.prog e:=a7 Yl Ed
noncomputable def E7:cH:=⟨20,[gA kf [3,1],.int .i64 1],.tup [.agg (.I .i64 [1,1]),.int .i64 0]⟩
theorem Ym:aG Tryd.prog E7:=a8 Ee (H':=[⟨true,[]⟩]) (by kernel_rfl) (by kernel_rfl)
noncomputable def Ri:List cH:=E7::Rg
theorem Ef:∀ e ∈ Ri,aG Tryd.prog e:=a7 Ym Ee
noncomputable def E8:cH:=⟨49,[gA kf [3,1],.nils],.tup [.ptrT none (gR kf [3,1] [0,3,0,1,2,3,0,1,0,0,0,0,0,0,0,0,0,0,0,0] [0,8,0,0,0,0,0,0,0,0]) 0,.int .i64 0]⟩
theorem Yn:aG Tryd.prog E8:=a8 Ef (H':=[⟨true,[]⟩]) (by kernel_rfl) (by kernel_rfl)
noncomputable def Rj:List cH:=E8::Ri
theorem Eg:∀ e ∈ Rj,aG Tryd.prog e:=a7 Yn Ef
end Go.Eng.Gall
end
section
namespace Go.Eng.Gall
open Go.Proofs
noncomputable def E9:cH:=⟨65,[.ptrT none (gR kf [3,1] [0,3,0,1,2,3,0,1,0,0,0,0,0,0,0,0,0,0,0,0] [0,8,0,0,0,0,0,0,0,0]) 0],.tup [.agg (.G [.int .i64 0,.int .i64 0,.nils]),.bool false]⟩
theorem Yo:aG Tryd.prog E9:=a8 Eg (H':=[⟨true,[]⟩]) (by kernel_rfl) (by kernel_rfl)
noncomputable def Rk:List cH:=E9::Rj
theorem Eh:∀ e ∈ Rk,aG Tryd.prog e:=a7 Yo Eg
noncomputable def UW:cH:=⟨56,[.ptrT none (gR kf [3,1] [0,0,0,1,2,3,0,1,0,0,0,0,0,0,0,0,0,0,0,0] [0,8,0,0,0,0,0,0,0,0]) 0],.agg (.I .i64 [0,0,1,1,2,3,0,0,0,0,0,0,0,0,0,0,0,0,0,0])⟩
theorem Tk:aG Tryd.prog UW:=a8 Eh (H':=[⟨true,[]⟩]) (by kernel_rfl) (by kernel_rfl)
noncomputable def LI:List cH:=UW::Rk
theorem Am:∀ e ∈ LI,aG Tryd.prog e:=a7 Tk Eh
noncomputable def UX:cH:=⟨65,[.ptrT none (gR kf [3,1] [0,0,0,1,2,3,0,1,0,0,0,0,0,0,0,0,0,0,0,0] [0,8,0,0,0,0,0,0,0,0]) 0],.tup [.agg (.G [.int .i64 0,.int .i64 0,.slcT none (.I .i64 [0,3]) 1 2 false]),.bool true]⟩
theorem Tl:aG Tryd.prog UX:=a8 Am (H':=[⟨true,[]⟩]) (by kernel_rfl) (by kernel_rfl)
noncomputable def LJ:List cH:=UX::LI
theorem An:∀ e ∈ LJ,aG Tryd.prog e:=a7 Tl Am
noncomputable def UY:cH:=⟨56,[.ptrT none (gR kf [3,1] [0,3,0,1,2,3,0,0,0,0,0,0,0,0,0,0,0,0,0,0] [0,8,0,0,0,0,0,0,0,0]) 0],.agg (.I .i64 [0,3,1,1,2,3,0,0,0,0,0,0,0,0,0,0,0,0,0,0])⟩
theorem Tm:aG Tryd.prog UY:=a8 An (H':=[⟨true,[]⟩]) (by kernel_rfl) (by kernel_rfl)
noncomputable def LK:List cH:=UY::LJ
theorem Ao:∀ e ∈ LK,aG Tryd.prog e:=a7 Tm An
end Go.Eng.Gall
end
section
namespace Go.Eng.Gall
open Go.Proofs
noncomputable def UZ:cH:=⟨65,[.ptrT none (gR kf [3,1] [0,3,0,1,2,3,0,0,0,0,0,0,0,0,0,0,0,0,0,0] [0,8,0,0,0,0,0,0,0,0]) 0],.tup [.agg (.G [.int .i64 0,.int .i64 0,.nils]),.bool false]⟩
theorem Tn:aG Tryd.prog UZ:=a8 Ao (H':=[⟨true,[]⟩]) (by kernel_rfl) (by kernel_rfl)
noncomputable def LM:List cH:=UZ::LK
theorem Ap:∀ e ∈ LM,aG Tryd.prog e:=a7 Tn Ao
noncomputable def U0:cH:=⟨56,[.ptrT none (gR kf [3,1] [1,1,0,1,2,3,0,0,0,0,0,0,0,0,0,0,0,0,0,0] [0,8,0,0,0,0,0,0,0,0]) 0],.agg (.I .i64 [1,1,1,1,2,3,0,0,0,0,0,0,0,0,0,0,0,0,0,0])⟩
theorem To:aG Tryd.prog U0:=a8 Ap (H':=[⟨true,[]⟩]) (by kernel_rfl) (by kernel_rfl)
noncomputable def LN:List cH:=U0::LM
theorem Aq:∀ e ∈ LN,aG Tryd.prog e:=a7 To Ap
noncomputable def U1:cH:=⟨65,[.ptrT none (gR kf [3,1] [1,1,0,1,2,3,0,0,0,0,0,0,0,0,0,0,0,0,0,0] [0,8,0,0,0,0,0,0,0,0]) 0],.tup [.agg (.G [.int .i64 0,.int .i64 1,.slcT none (.I .i64 [0,1,3]) 1 3 false]),.bool true]⟩
theorem Tp:aG Tryd.prog U1:=a8 Aq (H':=[⟨true,[]⟩]) (by kernel_rfl) (by kernel_rfl)
noncomputable def LO:List cH:=U1::LN
theorem Ar:∀ e ∈ LO,aG Tryd.prog e:=a7 Tp Aq
noncomputable def U2:cH:=⟨56,[.ptrT none (gR kf [3,1] [0,3,1,1,2,3,0,0,0,0,0,0,0,0,0,0,0,0,0,0] [0,8,0,0,0,0,0,0,0,0]) 0],.agg (.I .i64 [0,3,1,1,2,3,0,0,0,0,0,0,0,0,0,0,0,0,0,0])⟩
theorem Tq:aG Tryd.prog U2:=a8 Ar (H':=[⟨true,[]⟩]) (by kernel_rfl) (by kernel_rfl)
noncomputable def LP:List cH:=U2::LO
theorem Au:∀ e ∈ LP,aG Tryd.prog e:=a7 Tq Ar
end Go.Eng.Gall
end
section
namespace Go.Eng.Gall
open Go.Proofs
noncomputable def U3:cH:=⟨65,[.ptrT none (gR kf [3,1] [0,3,1,1,2,3,0,0,0,0,0,0,0,0,0,0,0,0,0,0] [0,8,0,0,0,0,0,0,0,0]) 0],.tup [.agg (.G [.int .i64 0,.int .i64 0,.nils]),.bool false]⟩
theorem Ts:aG Tryd.prog U3:=a8 Au (H':=[⟨true,[]⟩]) (by kernel_rfl) (by kernel_rfl)
noncomputable def LQ:List cH:=U3::LP
theorem Aw:∀ e ∈ LQ,aG Tryd.prog e:=a7 Ts Au
noncomputable def U4:cH:=⟨56,[.ptrT none (gR kf [3,1] [2,2,1,1,2,3,0,0,0,0,0,0,0,0,0,0,0,0,0,0] [0,8,0,0,0,0,0,0,0,0]) 0],.agg (.I .i64 [2,2,1,1,2,3,0,0,0,0,0,0,0,0,0,0,0,0,0,0])⟩
theorem Tt:aG Tryd.prog U4:=a8 Aw (H':=[⟨true,[]⟩]) (by kernel_rfl) (by kernel_rfl)
noncomputable def LR:List cH:=U4::LQ
theorem Ax:∀ e ∈ LR,aG Tryd.prog e:=a7 Tt Aw
noncomputable def U5:cH:=⟨65,[.ptrT none (gR kf [3,1] [2,2,1,1,2,3,0,0,0,0,0,0,0,0,0,0,0,0,0,0] [0,8,0,0,0,0,0,0,0,0]) 0],.tup [.agg (.G [.int .i64 0,.int .i64 0,.nils]),.bool false]⟩
theorem Tu:aG Tryd.prog U5:=a8 Ax (H':=[⟨true,[]⟩]) (by kernel_rfl) (by kernel_rfl)
noncomputable def LS:List cH:=U5::LR
theorem Ay:∀ e ∈ LS,aG Tryd.prog e:=a7 Tu Ax
noncomputable def U6:cH:=⟨56,[.ptrT none (gR kf [3,1] [2,2,1,1,3,3,0,0,0,0,0,0,0,0,0,0,0,0,0,0] [0,8,0,0,0,0,0,0,0,0]) 0],.agg (.I .i64 [2,2,1,1,3,3,0,0,0,0,0,0,0,0,0,0,0,0,0,0])⟩
theorem Tv:aG Tryd.prog U6:=a8 Ay (H':=[⟨true,[]⟩]) (by kernel_rfl) (by kernel_rfl)
noncomputable def LU:List cH:=U6::LS
theorem Az:∀ e ∈ LU,aG Tryd.prog e:=a7 Tv Ay
end Go.Eng.Gall
end
section
namespace Go.Eng.Gall
open Go.Proofs
noncomputable def U7:cH:=⟨65,[.ptrT none (gR kf [3,1] [2,2,1,1,3,3,0,0,0,0,0,0,0,0,0,0,0,0,0,0] [0,8,0,0,0,0,0,0,0,0]) 0],.tup [.agg (.G [.int .i64 0,.int .i64 0,.nils]),.bool false]⟩
theorem Tw:aG Tryd.prog U7:=a8 Az (H':=[⟨true,[]⟩]) (by kernel_rfl) (by kernel_rfl)
noncomputable def LV:List cH:=U7::LU
theorem AA:∀ e ∈ LV,aG Tryd.prog e:=a7 Tw Az
noncomputable def U8:cH:=⟨74,[.ptrT none (gR kf [3,1] [0,3,0,1,2,3,0,1,0,0,0,0,0,0,0,0,0,0,0,0] [0,8,0,0,0,0,0,0,0,0]) 0],.slcT none (.I .i64 [3,1,0,2]) 1 4 false⟩
theorem Tx:aG Tryd.prog U8:=a8 AA (H':=[⟨true,[]⟩]) (by kernel_rfl) (by kernel_rfl)
noncomputable def LW:List cH:=U8::LV
theorem AB:∀ e ∈ LW,aG Tryd.prog e:=a7 Tx AA
noncomputable def U9:cH:=⟨38,[gA kf [3,1]],.tup [.slcT none (.I .i64 [3,1,0,2]) 1 4 true,.int .i64 0]⟩
theorem Ty:aG Tryd.prog U9:=a8 AB (H':=[⟨true,[]⟩]) (by kernel_rfl) (by kernel_rfl)
noncomputable def LX:List cH:=U9::LW
theorem AD:∀ e ∈ LX,aG Tryd.prog e:=a7 Ty AB
noncomputable def Va:cH:=⟨22,[gA FH [3,1]],.int .i64 0⟩
theorem Tz:aG Tryd.prog Va:=a8 AD (H':=[⟨true,[]⟩]) (by kernel_rfl) (by kernel_rfl)
noncomputable def LY:List cH:=Va::LX
theorem AE:∀ e ∈ LY,aG Tryd.prog e:=a7 Tz AD
end Go.Eng.Gall
end
