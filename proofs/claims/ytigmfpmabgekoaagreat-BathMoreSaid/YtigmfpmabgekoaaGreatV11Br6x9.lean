/- Bath: the law BathMore, whole. -/
import Derived.Test.YtigmfpmabgekoaaGreatV11Br3x3
import Derived.Test.YtigmfpmabgekoaaGreatV11Bak0x6
import Derived.Test.YtigmfpmabgekoaaGreatV11EngPostx9
import Derived.Test.YtigmfpmabgekoaaGreatRows
import Derived.Test.YtigmfpmabgekoaaGreatChecked
import Derived.ProofKit
import Derived.OpenShut
set_option linter.unusedVariables false
set_option linter.unusedSimpArgs false
set_option maxRecDepth 100000
section
namespace Go.Eng
open Go.Proofs
section
variable (n l:Nat) (z:Nat→Int) (a b c d e w b0 b1 b2 b3 q:Int) (H:aa)
theorem Mg {K v:Nat} (x:Nat→Int) (h:bp l z=0) (hK:K<l) (hw:aN .i64 (bx .i64 w) (Int.ofNat l)=(K:Int)) (h0:0≤b0∧b0≤65535) (h1:0≤b1∧b1≤65535) (h2:0≤b2∧b2≤65535) (h3:0≤b3∧b3≤65535):∃ L,exec (bz (n+14) 11 219) (chain [part Tryz.f11 [1,1,1,1,1,1,0],part Tryz.f11 [1,1,1,1,1,1,1,0],part Tryz.f11 [1,1,1,1,1,1,1,1,0],part Tryz.f11 [1,1,1,1,1,1,1,1,1,0],part Tryz.f11 [1,1,1,1,1,1,1,1,1,1,0]]) [(0,aJ 5 l z),(2,.int .u8 w),(4,.int .u8 q),(8,.ptr 0 1 0 0),(11,.int .i64 (ib l z)),(13,aJ 5 (l+1) x),(46,.bool false)] (⟨false,[(0,.row (.I .i64 [a,b,c,d,e])),(0,.row (.I .u16 [b0,b1,b2,b3])),(0,.row (.I .i64 [])),(v,.dead),(0,.row (.I .i64 [a,b,c,d,e])),(0,.dead)]⟩::H)=some (.normal,[(0,aJ 5 l z),(4,.int .u8 q),(11,.int .i64 (ib l z)),(18,aJ 5 l (yM z K b0 b1 b2 b3))],(⟨false,L⟩:bn)::H):=by
 obtain ⟨hl,hz⟩:=bM h
 have hk:=hz K hK
 have ei:ar 0 (K:Int) 5=K*5:=by rw[bC];omega
 have w0:bx .i64 b0=b0:=ke (by omega) (by omega)
 have w1:bx .i64 b1=b1:=ke (by omega) (by omega)
 have w2:bx .i64 b2=b2:=ke (by omega) (by omega)
 have w3:bx .i64 b3=b3:=ke (by omega) (by omega)
 have v2:cu .i64 (z (K*5+2)) b0=z (K*5+2)-b0:=by rw[eh,cK (by omega) (by omega)]
 have v3:a8 .i64 (z (K*5+2+1)) b1=z (K*5+2+1)+b1:=by
  rw[show K*5+2+1=K*5+3 from rfl,bV,cK (by omega) (by omega)]
 have v0:a8 .i64 (z (K*5)) b2=z (K*5)+b2:=by rw[bV,cK (by omega) (by omega)]
 have v1:cu .i64 (z (K*5+1)) b3=z (K*5+1)-b3:=by rw[eh,cK (by omega) (by omega)]
 have hy:=Mi l z b0 b1 b2 b3 h hK h0 h1 h2 h3
 obtain ⟨y,e1,L,rfl⟩:=aG (Q:=fun y=>∃ L,y=(.normal,[(0,aJ 5 l z),(4,.int .u8 q),(11,.int .i64 (ib l z)),(18,aJ 5 l (yM z K b0 b1 b2 b3))],(⟨false,L⟩:bn)::H)) (Pu (n+14) l (l+1) v z x a b c d e w b0 b1 b2 b3 q (ib l z) H) (dC _ _ (fI (aT _) (fun args p v hg hp H=>QV _ args p v hg H))) (ag _ _) (ah _ _) (by
  rw[hw,ei,w0,w1,w2,w3]
  simp (disch:=omega) only[df,Jc,aQ,Nat.zero_add,F7,F8,v0,v1,v2,v3,IP,IN]
  clear v0 v1 v2 v3 w0 w1 w2 w3
  repeat' first | (refine Tr.al (fun hc=>?_) (fun hc=>?_)<;>(try simp (disch:=omega) only[nV,nW] at hc)<;>(try (exfalso;omega))) | (refine Tr.bf ?_ ?_;· ((try simp (disch:=omega) only[nV,nW]);try omega)) | (refine Tr.ay ?_ ?_;· first | exact trivial | rfl | exact ⟨rfl,rfl⟩ | exact ⟨trivial,rfl⟩ | exact ⟨rfl,by assumption⟩ | exact ⟨trivial,by assumption⟩ | exact ⟨rfl,rfl,rfl⟩ | (simp (disch:=omega) only[nV,nW];done) | ((try simp (disch:=omega) only[nV,nW]);omega)) | fail
  all_goals first
   | exact Tr.aw ⟨_,Mm rfl (by rw[fF]) hy⟩
   | fail)
 exact ⟨L,e1⟩

end
theorem NM {c l:Nat} {z:Nat→Int} {q:Int} {k1 k2:Bool} {b1 b2:List (Nat×ak)} (h1:kI l z q=0):cd (c+12) (.fn 36) [.slcT none (.M [.arr .i64 z (aD l 5)]) 5 l false,.int .i64 q] [⟨k1,b1⟩,⟨k2,b2⟩]=some (.tup [.int .i64 (mX l z q.toNat).1,dA (mX l z q.toNat).2,.int .i64 0],[⟨k1,b1⟩,⟨k2,b2⟩]):=by
 have:=Ri c l z q k1 k2 b1 b2
 unfold Pg at this
 rw[if_pos h1] at this
 unfold aJ at this
 rw[cr,← fF] at this
 exact this
theorem JH {c:Nat} {t:mb} (ht:t.Ok (cd (c+12))):(jc t 36 (N5 (fun l z q=>kI l z q=0) (fun l z q=>(mX l z q.toNat).1) (fun l z q=>dA (mX l z q.toNat).2))).Ok (cd (c+12)):=by
 refine jd ht (fun args H x hx=>?_)
 unfold N5 at hx
 split at hx
 · split at hx
   · obtain ⟨⟨rfl,h1⟩,h2⟩:=Tr.c7 hx
     rw[← Tr.ab h2]
     exact NM h1
   · exact (Tr.ae hx).elim
 · exact (Tr.ae hx).elim
theorem Md {q:Int} (h:0≤q∧q≤255):aN .i64 (bx .i64 q) (Int.ofNat 15)=q % 15∧0≤q % 15∧q % 15≤14:=by
 rw[ke (by omega) (by omega),Cm h.1]
 show q % 15=_∧_
 omega
theorem Mh (n l:Nat) (z y:Nat→Int) (q:Int) (L:List (Nat×ak)) (hq:0≤q∧q≤255) (h:bp l z=0) (hy:bp l y=0) (h1:ib l y≤ib l z) (h2:∀ K,K≤15→(mX l z K).1≤(mX l y K).1) :
 ∃ lv,exec (bz (n+14) 11 219) (chain [part Tryz.f11 [1,1,1,1,1,1,1,1,1,1,1,0],part Tryz.f11 [1,1,1,1,1,1,1,1,1,1,1,1,0],part Tryz.f11 [1,1,1,1,1,1,1,1,1,1,1,1,1,0],part Tryz.f11 [1,1,1,1,1,1,1,1,1,1,1,1,1,1,0],part Tryz.f11 [1,1,1,1,1,1,1,1,1,1,1,1,1,1,1]]) [(0,aJ 5 l z),(4,.int .u8 q),(11,.int .i64 (ib l z)),(18,aJ 5 l y)] [⟨false,L⟩,⟨true,[]⟩]=some (.ret,[(10,.bool true)],[lv,⟨true,[]⟩]):=by
 obtain ⟨r1,r2,r3⟩:=Md hq
 have m1:=Fa h r2 r3
 have m2:=Fa hy r2 r3
 have h3:=h2 (q % 15).toNat (by omega)
 obtain ⟨x,e1,lv,rfl⟩:=aG (Q:=fun x=>∃ lv,x=(.ret,[(10,.bool true)],[lv,⟨true,[]⟩])) (Pv (n+14) l z y q (ib l z) (ib l y) (fun l z q=>kI l z q=0) (fun l z q=>(mX l z q.toNat).1) (fun l z q=>dA (mX l z q.toNat).2) L) (dC _ _ (JH (dP (NY (by omega) (aT _)) (fun H=>Jl n l y H hy)))) (ag _ _) (ah _ _) (by
  rw[r1]
  generalize (mX l z (q % 15).toNat).1=u at *
  generalize (mX l y (q % 15).toNat).1=v at *
  clear r1
  repeat' first | (refine Tr.al (fun hc=>?_) (fun hc=>?_)<;>(try simp (disch:=omega) only[nV,nW] at hc)<;>(try (exfalso;omega))) | (refine Tr.bf ?_ ?_;· ((try simp (disch:=omega) only[nV,nW]);try omega)) | (refine Tr.ay ?_ ?_;· first | exact trivial | rfl | exact ⟨rfl,rfl⟩ | exact ⟨trivial,rfl⟩ | exact ⟨rfl,by assumption⟩ | exact ⟨trivial,by assumption⟩ | exact ⟨rfl,rfl,rfl⟩ | (simp (disch:=omega) only[nV,nW];done) | ((try simp (disch:=omega) only[nV,nW]);omega)) | fail
  all_goals first
   | exact Tr.aw ⟨_,rfl⟩
   | fail)
 exact ⟨lv,e1⟩
theorem PR (n l:Nat) (z:Nat→Int) (a b c d e w b0 b1 b2 b3 q:Int) (H:aa) (hf:yf l z=false):∃ lv,exec (bz (n+14) 11 219) (chain [part Tryz.f11 [0],part Tryz.f11 [1,0]]) [(0,aJ 5 l z),(1,.agg (.I .i64 [a,b,c,d,e])),(2,.int .u8 w),(3,.agg (.I .u16 [b0,b1,b2,b3])),(4,.int .u8 q)] (aB::H)=some (.ret,[(10,.bool true)],lv::H):=by
 obtain ⟨x,h1,lv,rfl⟩:=aG (Q:=fun x=>∃ lv,x=(.ret,[(10,.bool true)],lv::H)) (LZ (n+14) l z a b c d e w b0 b1 b2 b3 q false H) (dC _ _ (dP (NY (by omega) (aT _)) (fun H=>by have:=No (n+9) l z H;rwa [hf] at this))) (ag _ _) (ah _ _) (by
  repeat' first | (refine Tr.al (fun hc=>?_) (fun hc=>?_)<;>(try simp (disch:=omega) only[nV,nW] at hc)<;>(try (exfalso;omega))) | (refine Tr.bf ?_ ?_;· ((try simp (disch:=omega) only[nV,nW]);try omega)) | (refine Tr.ay ?_ ?_;· first | exact trivial | rfl | exact ⟨rfl,rfl⟩ | exact ⟨trivial,rfl⟩ | exact ⟨rfl,by assumption⟩ | exact ⟨trivial,by assumption⟩ | exact ⟨rfl,rfl,rfl⟩ | (simp (disch:=omega) only[nV,nW];done) | ((try simp (disch:=omega) only[nV,nW]);omega)) | fail
  all_goals first
   | exact Tr.aw ⟨_,rfl⟩
   | fail)
 exact ⟨lv,h1⟩
theorem Re (n l:Nat) (z:Nat→Int) (a b c d e w b0 b1 b2 b3 q:Int) (hw:0≤w∧w≤255) (h0:0≤b0∧b0≤65535) (h1:0≤b1∧b1≤65535) (h2:0≤b2∧b2≤65535) (h3:0≤b3∧b3≤65535) (hq:0≤q∧q≤255) :
 cd (n+15) (.fn 11) [aJ 5 l z,.agg (.I .i64 [a,b,c,d,e]),.int .u8 w,.agg (.I .u16 [b0,b1,b2,b3]),.int .u8 q] [⟨true,[]⟩]=some (.bool true,[⟨true,[]⟩]):=by
 suffices hs:∃ lv,exec (bz (n+14) 11 219) (chain [part Tryz.f11 [0],part Tryz.f11 [1,0],part Tryz.f11 [1,1,0],part Tryz.f11 [1,1,1,0],part Tryz.f11 [1,1,1,1,0],part Tryz.f11 [1,1,1,1,1,0],part Tryz.f11 [1,1,1,1,1,1,0],part Tryz.f11 [1,1,1,1,1,1,1,0],part Tryz.f11 [1,1,1,1,1,1,1,1,0],part Tryz.f11 [1,1,1,1,1,1,1,1,1,0],part Tryz.f11 [1,1,1,1,1,1,1,1,1,1,0],part Tryz.f11 [1,1,1,1,1,1,1,1,1,1,1,0],part Tryz.f11 [1,1,1,1,1,1,1,1,1,1,1,1,0],part Tryz.f11 [1,1,1,1,1,1,1,1,1,1,1,1,1,0],part Tryz.f11 [1,1,1,1,1,1,1,1,1,1,1,1,1,1,0],part Tryz.f11 [1,1,1,1,1,1,1,1,1,1,1,1,1,1,1]]) [(0,aJ 5 l z),(1,.agg (.I .i64 [a,b,c,d,e])),(2,.int .u8 w),(3,.agg (.I .u16 [b0,b1,b2,b3])),(4,.int .u8 q)] [aB,⟨true,[]⟩]=some (.ret,[(10,.bool true)],[lv,⟨true,[]⟩]) by
  obtain ⟨lv,hs⟩:=hs
  exact GD (n:=n+14) Tryz.func11 NW rfl rfl (by rw[Pl];exact hs) (Me _ lv)
 cases hf:yf l z with
 | false =>
   obtain ⟨lv,hs⟩:=PR n l z a b c d e w b0 b1 b2 b3 q [⟨true,[]⟩] hf
   exact ⟨lv,BB [part Tryz.f11 [0],part Tryz.f11 [1,0]] (by simp) hs⟩
 | true =>
   have h:bp l z=0:=of_decide_eq_true hf
   have hl:=(bM h).1
   obtain ⟨K,hK1,hK⟩:∃ K:Nat,aN .i64 (bx .i64 w) (Int.ofNat l)=(K:Int)∧K<l:=by
    rw[ke (by omega) (by omega),Cm hw.1]
    refine ⟨(w % (l:Int)).toNat,?_,?_⟩
    · have:=Int.emod_nonneg w (show (l:Int)≠0 by omega)
      show w % (l:Int)=_
      omega
    · have:=Int.emod_lt_of_pos w (show (0:Int)<l by omega)
      have:=Int.emod_nonneg w (show (l:Int)≠0 by omega)
      omega
   obtain ⟨y1,y2,y3,y4⟩:=Nl (K:=K) h hK h0.1 h1.1 h2.1 h3.1
   obtain ⟨f1,f2⟩:=Iq h y1 y2 y3 y4
   have sa:=PL n l z a b c d e w b0 b1 b2 b3 q [⟨true,[]⟩] hf
   obtain ⟨v,sb⟩:=PM n l z a b c d e w b0 b1 b2 b3 q [⟨true,[]⟩] h
   cases hx:yf (l+1) (xM l z a b c d e) with
   | true =>
     obtain ⟨r1,r2,sc⟩:=PN n l z a b c d e w b0 b1 b2 b3 q [⟨true,[]⟩] _ v h (Ni l z a b c d e) hx
     obtain ⟨L,se⟩:=PQ n l z a b c d e w b0 b1 b2 b3 q [⟨true,[]⟩] (v:=v) (r1:=r1) (r2:=r2) h hK hK1 h0 h1 h2 h3
     obtain ⟨lv,sf⟩:=Mh n l z _ q L hq h y1 f1 f2
     exact ⟨lv,(nX [part Tryz.f11 [0],part Tryz.f11 [1,0]] (by simp) sa).trans ((nX [part Tryz.f11 [1,1,0],part Tryz.f11 [1,1,1,0],part Tryz.f11 [1,1,1,1,0]] (by simp) sb).trans ((wq sc).trans ((nX [part Tryz.f11 [1,1,1,1,1,1,0],part Tryz.f11 [1,1,1,1,1,1,1,0],part Tryz.f11 [1,1,1,1,1,1,1,1,0],part Tryz.f11 [1,1,1,1,1,1,1,1,1,0],part Tryz.f11 [1,1,1,1,1,1,1,1,1,1,0]] (by simp) se).trans sf)))⟩
   | false =>
     have sc:=PO n l z a b c d e w b0 b1 b2 b3 q [⟨true,[]⟩] _ v h hx
     obtain ⟨L,se⟩:=Mg n l z a b c d e w b0 b1 b2 b3 q [⟨true,[]⟩] (v:=v) (xM l z a b c d e) h hK hK1 h0 h1 h2 h3
     obtain ⟨lv,sf⟩:=Mh n l z _ q L hq h y1 f1 f2
     exact ⟨lv,(nX [part Tryz.f11 [0],part Tryz.f11 [1,0]] (by simp) sa).trans ((nX [part Tryz.f11 [1,1,0],part Tryz.f11 [1,1,1,0],part Tryz.f11 [1,1,1,1,0]] (by simp) sb).trans ((wq sc).trans ((nX [part Tryz.f11 [1,1,1,1,1,1,0],part Tryz.f11 [1,1,1,1,1,1,1,0],part Tryz.f11 [1,1,1,1,1,1,1,1,0],part Tryz.f11 [1,1,1,1,1,1,1,1,1,0],part Tryz.f11 [1,1,1,1,1,1,1,1,1,1,0]] (by simp) se).trans sf)))⟩
end Go.Eng
end
section
namespace Go.Proofs.YtigmfpmabgekoaaGreat.Known
open Go.Eng Go.Proofs
noncomputable def E1:jC:=⟨51,[],.slcT none (.I .i64 [100,110,20,60,5,90,90,10,30,3,150,150,0,40,4,130,140,30,35,6]) 5 4 true⟩
theorem Tl:bY Tryz.prog E1:=ec named mixed Cw jr [50] KtB.kt 100000 40 (H':=[⟨true,[]⟩]) (by kernel_rfl) (by kernel_rfl)
noncomputable def MI:List jC:=E1::MH
theorem Cy:∀ e ∈ MI,bY Tryz.prog e:=eH Tl Cw
noncomputable def E2:jC:=⟨18,[.slcT none (.I .i64 [100,110,20,60,5,90,90,10,30,3,150,150,0,40,4,130,130,25,50,6]) 5 4 true,.int .i64 80],.tup [.slcT none (.I .i64 [0,1,3]) 1 3 false,.int .i64 0]⟩
theorem Tm:bY Tryz.prog E2:=ec named mixed Cy jr [68] KtB.kt 100000 40 (H':=[⟨true,[]⟩]) (by kernel_rfl) (by kernel_rfl)
noncomputable def ML:List jC:=E2::MI
theorem Cz:∀ e ∈ ML,bY Tryz.prog e:=eH Tm Cy
noncomputable def E3:jC:=⟨23,[.slcT none (.I .i64 [100,110,20,60,5,90,90,10,30,3,150,150,0,40,4,130,130,25,50,6]) 5 4 true],.tup [.slcT none (.I .i64 [80,150]) 1 2 true,.int .i64 0]⟩
theorem Tn:bY Tryz.prog E3:=ec named mixed Cz jr [68] KtB.kt 100000 40 (H':=[⟨true,[]⟩]) (by kernel_rfl) (by kernel_rfl)
noncomputable def MM:List jC:=E3::ML
theorem CA:∀ e ∈ MM,bY Tryz.prog e:=eH Tn Cz
end Go.Proofs.YtigmfpmabgekoaaGreat.Known
end
section
namespace Go.Proofs.YtigmfpmabgekoaaGreat.Known
open Go.Eng Go.Proofs
noncomputable def E4:jC:=⟨32,[.slcT none (.I .i64 [100,110,20,60,5,90,90,10,30,3,150,150,0,40,4,130,130,25,50,6]) 5 4 true],.tup [.slcT none (.I .i64 [0,2]) 1 2 false,.int .i64 0]⟩
theorem To:bY Tryz.prog E4:=ec named mixed CA jr [68] KtB.kt 100000 40 (H':=[⟨true,[]⟩]) (by kernel_rfl) (by kernel_rfl)
noncomputable def MN:List jC:=E4::MM
theorem CB:∀ e ∈ MN,bY Tryz.prog e:=eH To CA
noncomputable def E5:jC:=⟨25,[.slcT none (.I .i64 [100,110,20,60,5,90,90,10,30,3,150,150,0,40,4,130,130,25,50,6]) 5 4 true],.tup [.slcT none (.I .i64 [2]) 1 1 false,.int .i64 0]⟩
theorem Tp:bY Tryz.prog E5:=ec named mixed CB jr [68] KtB.kt 100000 40 (H':=[⟨true,[]⟩]) (by kernel_rfl) (by kernel_rfl)
noncomputable def MO:List jC:=E5::MN
theorem CC:∀ e ∈ MO,bY Tryz.prog e:=eH Tp CB
noncomputable def E6:jC:=⟨36,[.slcT none (.I .i64 [100,110,20,60,5,90,90,10,30,3,150,150,0,40,4,130,130,25,50,6]) 5 4 true,.int .i64 1],.tup [.int .i64 14,.slcT none (.I .i64 [80]) 1 1 false,.int .i64 0]⟩
theorem Tq:bY Tryz.prog E6:=ec named mixed CC jr [68] KtB.kt 100000 40 (H':=[⟨true,[]⟩]) (by kernel_rfl) (by kernel_rfl)
noncomputable def MP:List jC:=E6::MO
theorem CD:∀ e ∈ MP,bY Tryz.prog e:=eH Tq CC
end Go.Proofs.YtigmfpmabgekoaaGreat.Known
end
section
namespace Go.Proofs.YtigmfpmabgekoaaGreat.Known
open Go.Eng Go.Proofs
noncomputable def E7:jC:=⟨43,[.slcT none (.I .i64 [100,110,20,60,5,90,90,10,30,3,150,150,0,40,4,130,130,25,50,6]) 5 4 true,.int .i64 1],.tup [.int .i64 4,.slcT none (.I .i64 [1,3,4,0]) 1 4 true,.int .i64 0]⟩
theorem Ts:bY Tryz.prog E7:=ec named mixed CD jr [68] KtB.kt 100000 40 (H':=[⟨true,[]⟩]) (by kernel_rfl) (by kernel_rfl)
noncomputable def MQ:List jC:=E7::MP
theorem CE:∀ e ∈ MQ,bY Tryz.prog e:=eH Ts CD
noncomputable def E8:jC:=⟨45,[.slcT none (.I .i64 [100,110,20,60,5,90,90,10,30,3,150,150,0,40,4,130,130,25,50,6]) 5 4 true,.int .i64 1,.int .i64 4,.slcT none (.I .i64 [1,3,4,0]) 1 4 true],.tup [.int .i64 14,.int .i64 0]⟩
theorem Tt:bY Tryz.prog E8:=ec named mixed CE jr [68] KtB.kt 100000 40 (H':=[⟨true,[]⟩]) (by kernel_rfl) (by kernel_rfl)
noncomputable def MR:List jC:=E8::MQ
theorem CF:∀ e ∈ MR,bY Tryz.prog e:=eH Tt CE
noncomputable def E9:jC:=⟨34,[.slcT none (.I .i64 [100,110,20,60,5,90,90,10,30,3,150,150,0,40,4,130,130,25,50,6]) 5 4 true,.slcT none (.I .i64 [0,2]) 1 2 false],.int .i64 0⟩
theorem Tu:bY Tryz.prog E9:=ec named mixed CF jr [68] KtB.kt 100000 40 (H':=[⟨true,[]⟩]) (by kernel_rfl) (by kernel_rfl)
noncomputable def MT:List jC:=E9::MR
theorem CG:∀ e ∈ MT,bY Tryz.prog e:=eH Tu CF
end Go.Proofs.YtigmfpmabgekoaaGreat.Known
end
section
namespace Go.Proofs.YtigmfpmabgekoaaGreat.Known
open Go.Eng Go.Proofs
noncomputable def QI:jC:=⟨39,[.slcT none (.I .i64 [100,110,20,60,5,90,90,10,30,3,150,150,0,40,4,130,130,25,50,6]) 5 4 true,.slcT none (.I .i64 [80]) 1 1 false],.int .i64 14⟩
theorem Pm:bY Tryz.prog QI:=ec named mixed CG jr [68] KtB.kt 100000 40 (H':=[⟨true,[]⟩]) (by kernel_rfl) (by kernel_rfl)
noncomputable def IX:List jC:=QI::MT
theorem z6:∀ e ∈ IX,bY Tryz.prog e:=eH Pm CG
noncomputable def QJ:jC:=⟨36,[.slcT none (.I .i64 [100,110,20,60,5,90,90,10,30,3,150,150,0,40,4,130,130,25,50,6]) 5 4 true,.int .i64 0],.tup [.int .i64 0,.nils,.int .i64 0]⟩
theorem Pn:bY Tryz.prog QJ:=ec named mixed z6 jr [68] KtB.kt 100000 40 (H':=[⟨true,[]⟩]) (by kernel_rfl) (by kernel_rfl)
noncomputable def IY:List jC:=QJ::IX
theorem z7:∀ e ∈ IY,bY Tryz.prog e:=eH Pn z6
noncomputable def QK:jC:=⟨36,[.slcT none (.I .i64 [100,110,20,60,5,90,90,10,30,3,150,150,0,40,4,130,130,25,50,6]) 5 4 true,.int .i64 2],.tup [.int .i64 18,.slcT none (.I .i64 [80,110]) 1 2 false,.int .i64 0]⟩
theorem Po:bY Tryz.prog QK:=ec named mixed z7 jr [68] KtB.kt 100000 40 (H':=[⟨true,[]⟩]) (by kernel_rfl) (by kernel_rfl)
noncomputable def IZ:List jC:=QK::IY
theorem z8:∀ e ∈ IZ,bY Tryz.prog e:=eH Po z7
end Go.Proofs.YtigmfpmabgekoaaGreat.Known
end
section
namespace Go.Proofs.YtigmfpmabgekoaaGreat.Known
open Go.Eng Go.Proofs
noncomputable def QL:jC:=⟨18,[.slcT none (.I .i64 [100,110,20,60,5,90,90,10,30,3,150,150,0,40,4,130,130,25,50,6]) 5 4 true,.int .i64 81],.tup [.slcT none (.I .i64 [3]) 1 1 false,.int .i64 0]⟩
theorem Pp:bY Tryz.prog QL:=ec named mixed z8 jr [68] KtB.kt 100000 40 (H':=[⟨true,[]⟩]) (by kernel_rfl) (by kernel_rfl)
noncomputable def I0:List jC:=QL::IZ
theorem Aa:∀ e ∈ I0,bY Tryz.prog e:=eH Pp z8
noncomputable def QM:jC:=⟨36,[.slcT none (.I .i64 [100,110,20,60,5,90,90,10,30,3,150,150,0,40,4,130,140,30,35,6]) 5 4 true,.int .i64 1],.tup [.int .i64 8,.slcT none (.I .i64 [60]) 1 1 false,.int .i64 0]⟩
theorem Pq:bY Tryz.prog QM:=ec named mixed Aa jr [68] KtB.kt 100000 40 (H':=[⟨true,[]⟩]) (by kernel_rfl) (by kernel_rfl)
noncomputable def MJ:List jC:=QM::I0
theorem F0:∀ e ∈ MJ,bY Tryz.prog e:=eH Pq Aa
end Go.Proofs.YtigmfpmabgekoaaGreat.Known
end
section
namespace Go.Proofs.YtigmfpmabgekoaaGreat.Known
open Go.Eng Go.Proofs
noncomputable def EW:jC:=⟨15,[],.bool true⟩
theorem okW:bY Tryz.prog EW:=ec named mixed F0 jr [68] KtB.kt 100000 40 (H':=[⟨true,[]⟩]) (by kernel_rfl) (by kernel_rfl)
end Go.Proofs.YtigmfpmabgekoaaGreat.Known
end
section
namespace Go.Eng
open Go.Proofs Go.ChangeShapes Go.WideShapes Go.ChangeAt Go.RowKit
theorem Tv {p:aF} {M:Mu} {k:IntKind} {z:Nat→Int} {N sz len:Nat} {full:Bool} {v:Value} (h:aj p M (.slcT none (.F (fun j=>.int k (z j)) N) sz len full) v):aj p M (.slcT none (.M [.arr k z N]) sz len full) v:=by
 cases h with
 | slcN=>exact .slcN
 | slcT vs h0 h1 hv hl hf hx =>
   have e:∀ j,j<(Row.M [aW.arr k z N]).len→j<N:=fun j hj=>by simpa[Row.len,aC,aI] using hj
   refine .slcT vs (fun j hj=>h0 j (e j hj)) (fun j hj=>h1 j (e j hj)) (fun j hj=>?_) hl hf hx
   have:=hv j (e j hj)
   simp only[Row.get,getM,if_pos (e j hj)] at this ⊢
   exact this.bB _ _
theorem A9 {P:Program} {w:World} {r:Reach} {base:Nat} {t e:TypeId} {v:Value} (ht:P.underlying t=some (.slice e)) (h:Cell.okWide P w r base t v):∀ a l c,v=.slice (some a) l c→a.spot=none:=by
 rintro a l c rfl
 simp only[Cell.okWide,ht,Cell.ok] at h
 exact h.2.2.2.1
theorem Et:DS Tryz.prog 2 1:=yj Tryz.underlying2
theorem Eu:DS Tryz.prog 26 2:=wJ Tryz.underlying26 Et Et rfl rfl (by kernel_rfl) (by kernel_rfl) (by kernel_rfl)
theorem wK {P:Program} {k:IntKind} {t:TypeId} {f0 f1 f2:Field} {n0 n1 n2:Nat} (ht:P.underlying t=some (.struct #[f0,f1,f2])) (h0:jb k P f0.type n0) (h1:jb k P f1.type n1) (h2:jb k P f2.type n2) (o0:f0.offset=0) (o1:f1.offset=n0) (o2:f2.offset=n0+n1) (c0:P.cellsOf f0.type=n0) (c1:P.cellsOf f1.type=n1) (c2:P.cellsOf f2.type=n2) (c:P.cellsOf t=n0+n1+n2):jb k P t (n0+n1+n2):=by
 intro H enc w base sp held fuel cs x h
 obtain ⟨xs,m,_,_,hl,hxl,hf⟩:=DataW.trod_struct ht h
 match xs,hxl,hf with
 | [y0,y1,y2],_,hf =>
   have g0:=hf 0 f0 rfl
   have g1:=hf 1 f1 rfl
   have g2:=hf 2 f2 rfl
   obtain ⟨_,k0⟩:=h0 _ _ _ _ _ _ _ _ _ g0
   obtain ⟨_,k1⟩:=h1 _ _ _ _ _ _ _ _ _ g1
   obtain ⟨_,k2⟩:=h2 _ _ _ _ _ _ _ _ _ g2
   refine ⟨by rw[hl,c],fun j hj=>?_⟩
   by_cases p:j<n0
   · obtain ⟨z,hz,hw⟩:=k0 j p
     refine ⟨z,?_,hw⟩
     rw[o0,c0] at hz
     simpa[List.getElem?_take,p] using hz
   by_cases q:j<n0+n1
   · obtain ⟨z,hz,hw⟩:=k1 (j-n0) (by omega)
     refine ⟨z,?_,hw⟩
     rw[o1,c1] at hz
     have:j-n0<n1:=by omega
     simpa[List.getElem?_take,this,List.getElem?_drop,show n0+(j-n0)=j by omega] using hz
   · obtain ⟨z,hz,hw⟩:=k2 (j-(n0+n1)) (by omega)
     refine ⟨z,?_,hw⟩
     rw[o2,c2] at hz
     have:j-(n0+n1)<n2:=by omega
     simpa[List.getElem?_take,this,List.getElem?_drop,show n0+n1+(j-(n0+n1))=j by omega] using hz
theorem Ev:DS Tryz.prog 56 5:=wK Tryz.underlying56 Eu Eu Et rfl rfl rfl (by kernel_rfl) (by kernel_rfl) (by kernel_rfl) (by kernel_rfl)
def qN (t:TypeId) (A:AV→Prop):Prop:=∀ (H:Type) (enc:TypeId×Value→H) (w:World) (r:Reach) (b0 base:Nat) (sp:Nat→Bool) (held:Bool) (v:Value) (d:DataW H) (ps:List MemPlace),
 Value.okWide Tryz.prog w r b0 t v→DataW.Trod enc Tryz.prog w base sp held t v d ps→∃ a,A a∧aj (Pw w) Mu.no a v
def Aj:List (AV→Prop)→List AV→Prop
 | [],[]=>True
 | A::As,a::xs=>A a∧Aj As xs
 | _,_=>False
theorem kj {A:AV→Prop} {As:List (AV→Prop)} {xs:List AV} (h:Aj (A::As) xs):∃ a ys,xs=a::ys∧A a∧Aj As ys:=by
 cases xs with
 | nil=>exact h.elim
 | cons a ys=>exact ⟨a,ys,rfl,h.1,h.2⟩
theorem DX {xs:List AV} (h:Aj [] xs):xs=[]:=by
 cases xs with
 | nil=>rfl
 | cons a ys=>exact h.elim
def I2:List TypeId→List (AV→Prop)→Prop
 | [],[]=>True
 | t::ts,A::As=>qN t A∧I2 ts As
 | _,_=>False
theorem Bv {H:Type} {enc:TypeId×Value→H} {w:World} {r:Reach} {b0 base:Nat} {sp:Nat→Bool} {held:Bool}:∀ (ts:List TypeId) (As:List (AV→Prop)) (vs:List Value) (ds:List (DataW H)) (ps:List MemPlace),I2 ts As →
 (∀ (j:Nat) t v,ts[j]?=some t→vs[j]?=some v→Value.okWide Tryz.prog w r b0 t v)→DataW.TrodAll enc Tryz.prog w base sp held ts vs ds ps→∃ xs,Aj As xs∧vs.length=xs.length∧∀ j,j<xs.length→aj (Pw w) Mu.no (xs.getD j .undef) (vs.getD j undef)
 | [],[],vs,ds,ps,_,_,h=>by
   obtain ⟨rfl,rfl,rfl⟩:=trodAll_nil h
   exact ⟨[],trivial,rfl,fun j hj=>by simp at hj⟩
 | t::ts,A::As,vs,ds,ps,hT,hv,h=>by
   obtain ⟨v,vs',d,ds',p,q,rfl,rfl,rfl,h1,h2⟩:=trodAll_cons h
   obtain ⟨a,ha,hr⟩:=hT.1 H enc w r b0 base sp held v d p (hv 0 t v rfl rfl) h1
   obtain ⟨xs,hA,hl,hR⟩:=Bv ts As vs' ds' q hT.2 (fun j t' v' e1 e2=>hv (j+1) t' v' (by simpa using e1) (by simpa using e2)) h2
   refine ⟨a::xs,⟨ha,hA⟩,by simp[hl],fun j hj=>?_⟩
   cases j with
   | zero=>exact hr
   | succ j=>simpa using hR j (by simpa using hj)
 | [],_::_,_,_,_,hT,_,_=>hT.elim
 | _::_,[],_,_,_,hT,_,_=>hT.elim
theorem vU {H:Type} {enc:TypeId×Value→H} {W W':World} {base:Nat} {sp':Nat→Bool} (hl:laidOutB Tryz.prog=true):∀ (ts:List TypeId) (vs:List Value) (ds:List (DataW H)) (ps:List MemPlace),(∀ t ∈ ts,Tryz.prog.readableRec t=true∧t<Tryz.prog.types.size) →
 DataW.TrodAll enc Tryz.prog W base (fun _=>true) true ts vs ds ps→(∀ p ∈ ps,W.sameAt W' p)→(∀ p ∈ ps,sp' p.block=true)→DataW.TrodAll enc Tryz.prog W' base sp' true ts vs ds ps
 | [],vs,ds,ps,_,h,_,_=>by
   obtain ⟨rfl,rfl,rfl⟩:=trodAll_nil h
   exact trodAll_mk0
 | t::ts,vs,ds,ps,ht,h,hs,hp=>by
   obtain ⟨v,vs',d,ds',p,q,rfl,rfl,rfl,h1,h2⟩:=trodAll_cons h
   obtain ⟨r1,r2⟩:=ht t (by simp)
   refine ⟨p,q,?_,vU hl ts vs' ds' q (fun t' h'=>ht t' (List.mem_cons_of_mem _ h')) h2 (fun x hx=>hs x (List.mem_append_right _ hx)) (fun x hx=>hp x (List.mem_append_right _ hx)),rfl⟩
   exact WideElems.Trod_stays hl r1 r2 h1 (fun x hx=>hs x (List.mem_append_left _ hx)) (fun x hx=>hp x (List.mem_append_left _ hx))
theorem K6 (hN:cB Tryz.prog) (hm:Tryz.prog.follows .mixedOrders=true) (hW:bY Tryz.prog ⟨15,[],.bool true⟩) (n:Nat):bK Tryz.prog (cd n) :=
 pZ hN (wC hN hm) (HF hN (wC hN hm) hW) KtB.kt 100000 n
theorem Dl {f:FuncId} {ts:List TypeId} {As:List (AV→Prop)} (hT:I2 ts As) {n:Nat} (hlaw:∀ xs,Aj As xs→∃ H',cd n (.fn f) xs [⟨true,[]⟩]=some (.bool true,H')) {H:Type} {enc:TypeId×Value→H} {w:World} {r:Reach} {b0 base:Nat} {sp:Nat→Bool} {held:Bool} {args:Array Value} {ds:List (DataW H)} {ps:List MemPlace}
 (hv:∀ (j:Nat) t v,ts[j]?=some t→args[j]?=some v→Value.okWide Tryz.prog w r b0 t v) (h:DataW.TrodAll enc Tryz.prog w base sp held ts args.toList ds ps) :
 Calls Tryz.prog f args w (fun e w'=>e=.returned (.bool true)∧Go.RowKit.Below w.heap.size w w'):=by
 obtain ⟨xs,hA,hl,hR⟩:=Bv ts As args.toList ds ps hT (fun j t v e1 e2=>hv j t v e1 (by simpa using e2)) h
 obtain ⟨H',hc⟩:=hlaw xs hA
 refine CV (K6 YtigmfpmabgekoaaGreat.Known.named YtigmfpmabgekoaaGreat.Known.mixed YtigmfpmabgekoaaGreat.Known.okW n) hc ⟨by simpa using hl,fun j hj=>?_⟩
 have:=hR j hj
 have e:args.toList.getD j undef=args.getD j undef:=by
  rw[Array.getD_eq_getD_getElem?,List.getD_eq_getElem?_getD,Array.getElem?_toList]
 rwa [e] at this
theorem Gw {t:TypeId} {k:IntKind} (ht:Tryz.prog.underlying t=some (.int k)):qN t (fun a=>∃ n:Int,a=.int k n∧(Lit.int k n).wf=true):=fun H enc w r b0 base sp held v d ps hv h=>by
 obtain ⟨fuel,hf⟩:=h
 obtain ⟨n,e,_,hw⟩:=DataW.trod_int ht hf
 obtain ⟨s,rfl⟩:=WideShapes.okWide_int ht hv
 have:s=n:=by simpa[Value.cells] using e
 subst this
 exact ⟨_,⟨s,rfl,hw⟩,.int _ _⟩
def KL (a:AV):Prop:=∃ n:Int,a=.int .u8 n∧0≤n∧n≤255
theorem Iv:qN 5 KL:=fun H enc w r b0 base sp held v d ps hv h=>by
 obtain ⟨a,⟨n,rfl,hw⟩,hr⟩:=Gw Tryz.underlying5 H enc w r b0 base sp held v d ps hv h
 simp[Lit.wf,IntKind.min,IntKind.max,IntKind.signed,IntKind.bits] at hw
 exact ⟨_,⟨n,rfl,by omega,by omega⟩,hr⟩
theorem own:ownKnob Tryz.prog.godebug=none:=by kernel_rfl
theorem laidOut:laidOutB Tryz.prog=true:=by kernel_rfl
theorem AA {P:Program} {k:IntKind} {t e:TypeId} {n m:Nat} (ht:P.underlying t=some (.array n e)) (he:jb k P e m) (hm:0<m) (hc:P.cellsOf e=m) (hct:P.cellsOf t=n*m):jb k P t (n*m):=by
 intro H enc w base sp held fuel cs x h
 obtain ⟨xs,f,_,_,hl,hxl,hel⟩:=DataW.trod_array ht h
 refine ⟨by rw[hl,hct],fun j hj=>?_⟩
 have hi:j / m<n:=by rw[Nat.div_lt_iff_lt_mul hm];exact hj
 have hm':=Nat.mod_lt j hm
 have g:=hel (j / m) hi
 have:j / m<xs.length:=by omega
 rw[List.getElem?_eq_getElem this] at g
 obtain ⟨_,k1⟩:=he _ _ _ _ _ _ _ _ _ g
 obtain ⟨z,hz,hw⟩:=k1 (j % m) hm'
 refine ⟨z,?_,hw⟩
 rw[hc,List.getElem?_take,if_pos hm',List.getElem?_drop] at hz
 have hd:=Nat.div_add_mod j m
 rw[Nat.mul_comm] at hd
 rwa [hd] at hz
def KJ (k:IntKind) (n:Nat) (a:AV):Prop:=∃ l:List Int,a=.agg (.I k l)∧l.length=n∧∀ x ∈ l,(Lit.int k x).wf=true
theorem Bt {t:TypeId} {k:IntKind} {n:Nat} (hs:∀ w r b v,Value.okWide Tryz.prog w r b t v→∃ cs,v=.agg cs) (hf:jb k Tryz.prog t n):qN t (KJ k n):=fun H enc w r b0 base sp held v d ps hv h=>by
 obtain ⟨cs,rfl⟩:=hs _ _ _ _ hv
 obtain ⟨fuel,hd⟩:=h
 obtain ⟨hl,hz⟩:=hf _ _ _ _ _ _ _ _ _ hd
 simp only[Value.cells,Array.length_toList] at hl
 have cell:∀ j (hj:j<n),∃ z:Int,cs.getD j undef=.int k z∧(Lit.int k z).wf=true:=fun j hj=>by
  obtain ⟨z,h1,h2⟩:=hz j hj
  simp only[Value.cells] at h1
  refine ⟨z,?_,h2⟩
  rw[Array.getD_eq_getD_getElem?,← Array.getElem?_toList,h1];rfl
 obtain ⟨zs,hzs⟩:∃ zs:Nat→Int,∀ j,j<n→cs.getD j undef=.int k (zs j)∧(Lit.int k (zs j)).wf=true :=
  ⟨fun j=>if h:j<n then Classical.choose (cell j h) else 0,fun j hj=>by
    have:=Classical.choose_spec (cell j hj)
    simp only[dif_pos hj];exact this⟩
 refine ⟨.agg (.I k ((List.range n).map zs)),⟨_,rfl,by simp,fun x hx=>?_⟩,.agg (by simp[Row.len,hl]) (fun j hj=>?_) (fun j hj=>?_)⟩
 · obtain ⟨j,hj,rfl⟩:=List.mem_map.1 hx
   exact (hzs j (by simpa using hj)).2
 · have hj:j<n:=by simpa[Row.len] using hj
   rw[(hzs j hj).1];rfl
 · have hj:j<n:=by simpa[Row.len] using hj
   rw[(hzs j hj).1]
   have e:(Row.I k ((List.range n).map zs)).get j=.int k (zs j):=by
    simp only[Row.get]
    rw[List.getD_eq_getElem?_getD]
    simp[hj]
   rw[e];exact .int _ _
theorem xh {t:TypeId} {fs:Array Field} (ht:Tryz.prog.underlying t=some (.struct fs)):∀ w r b v,Value.okWide Tryz.prog w r b t v→∃ cs,v=.agg cs:=fun w r b v h=>by
 simp only[Value.okWide,ht] at h
 obtain ⟨cs,h1,_⟩:=h
 exact ⟨cs,h1⟩
theorem zm {t e:TypeId} {n:Nat} (ht:Tryz.prog.underlying t=some (.array n e)):∀ w r b v,Value.okWide Tryz.prog w r b t v→∃ cs,v=.agg cs:=fun w r b v h=>by
 simp only[Value.okWide,ht] at h
 obtain ⟨cs,h1,_⟩:=h
 exact ⟨cs,h1⟩
theorem D2 {t e n:Nat} {k:IntKind} (ht:Tryz.prog.underlying t=some (.slice e)) (he:jb k Tryz.prog e n) (hn:0<n) (hc:Tryz.prog.cellsOf e=n):qN t (fun a=>∃ (len:Nat) (z:Nat→Int),a=.slcT none (.M [.arr k z (len*n)]) n len false∧∀ j,(Lit.int k (z j)).wf=true):=fun H enc w r b0 base sp held v d ps hv h=>by
 simp only[Value.okWide,ht] at hv
 have hcell:v.cells.toList=[v]:=by
  simp only[Cell.okWide,ht] at hv
  cases v<;>simp_all [Cell.ok]<;>rfl
 obtain ⟨fuel,hf⟩:=h
 rw[hcell] at hf
 have h0:(Lit.int k 0).wf=true:=by cases k<;>rfl
 rcases A8 ht he hn hc (A9 ht hv) hf with rfl | ⟨zs,len,h1,h2⟩
 · exact ⟨_,⟨0,fun _=>0,rfl,fun _=>h0⟩,.slcN⟩
 · refine ⟨_,⟨len,fun j=>if j<len*n then zs j else 0,rfl,fun j=>?_⟩,?_⟩
   · dsimp only
     split
     · exact h2 _ (by assumption)
     · exact h0
   · have h3:=Tv h1
     cases h3 with
     | slcN=>exact .slcN
     | slcT vs a0 a1 hv' hl hf' hx =>
       refine .slcT vs a0 a1 (fun j hj=>?_) hl hf' hx
       have:=hv' j hj
       have hj':j<len*n:=by simpa[Row.len,aC,aI] using hj
       simp only[Row.get,getM,if_pos hj'] at this ⊢
       exact this.bB _ _
def I1 (a:AV):Prop:=∃ (len:Nat) (z:Nat→Int),a=aJ 5 len z
theorem Je:qN 22 I1:=fun H enc w r b0 base sp held v d ps hv h=>by
 obtain ⟨a,⟨len,z,rfl,hz⟩,hr⟩:=D2 Tryz.underlying22 Ev (by omega) (by kernel_rfl) H enc w r b0 base sp held v d ps hv h
 refine ⟨_,⟨len,z,rfl⟩,?_⟩
 unfold aJ
 rw[cr]
 exact hr
end Go.Eng
end
section
namespace Go.Eng
open Go.Proofs
def Ny (v:AV):Prop:=∃ a b c d e:Int,v=.agg (.I .i64 [a,b,c,d,e])
theorem KS:qN 56 Ny:=fun H enc w r b0 base sp held v d ps hv h=>by
 obtain ⟨a,⟨l,rfl,hl,_⟩,hr⟩:=Bt (xh Tryz.underlying56) Ev H enc w r b0 base sp held v d ps hv h
 match l,hl,hr with
 | [a,b,c,d,e],_,hr=>exact ⟨_,⟨a,b,c,d,e,rfl⟩,hr⟩
theorem JE:jb .u16 Tryz.prog 54 1:=yj Tryz.underlying54
def Nx (v:AV):Prop:=∃ a b c d:Int,v=.agg (.I .u16 [a,b,c,d])∧(0≤a∧a≤65535)∧(0≤b∧b≤65535)∧(0≤c∧c≤65535)∧(0≤d∧d≤65535)
theorem KR:qN 66 Nx:=fun H enc w r b0 base sp held v d ps hv h=>by
 obtain ⟨a,⟨l,rfl,hl,hw⟩,hr⟩:=Bt (zm Tryz.underlying66) (AA Tryz.underlying66 JE (by omega) (by kernel_rfl) (by kernel_rfl)) H enc w r b0 base sp held v d ps hv h
 match l,hl,hr,hw with
 | [a,b,c,d],_,hr,hw =>
   have g:∀ x ∈ [a,b,c,d],0≤x∧x≤65535:=fun x hx=>by
    have:=hw x hx
    simp[Lit.wf,IntKind.min,IntKind.max,IntKind.signed,IntKind.bits] at this
    omega
   exact ⟨_,⟨a,b,c,d,rfl,g _ (by simp),g _ (by simp),g _ (by simp),g _ (by simp)⟩,hr⟩
end Go.Eng
end
