/- Gall: Order. -/
import Derived.Test.YtgphpjdchnfjlaaDoorV6Gp14x4
import Derived.Test.YtgphpjdchnfjlaaDoorV6Gp6x13
set_option linter.unusedVariables false
set_option linter.unusedSimpArgs false
set_option maxRecDepth 100000
section
namespace Go.Eng
open Go.Proofs Go.Eng.Gall
theorem FR {f:FuncId} {fn:Func} {n:Nat} (h30:f=30∨f=38) (hf:Tryd.prog.funcs[f]?=some fn) (hb:fn.body.isSome=true) {args:List HV} (hle:Nat.ble args.length fn.ntmps=true) {H:aa} {callR:bp} {bl:eE} {rg:nJ} {T:Tr (HV×aa)}
 (e:bz Tryd.prog (cd n) 100000 f fn (KtG.kt f) callR bl rg args H=T) (hC:callR.Ok (cd n)) (hB:bl.Ok (bP n f fn.ntmps) (a7 fn)) (hR:rg.Ok (bP n f fn.ntmps) (a7 fn)) {v:AV} {H':aa} (h:T.all fun y=>En y.1.1=v∧y.2=H'):cd (n+1) (.fn f) (jW args) H=some (v,H'):=by
 obtain ⟨y,h1,h2,h3⟩:=h
 have:=xt (P:=Tryd.prog) (KT:=KtG.kt) (fu:=100000) (f:=f) (call:=cd n) (fn:=fn) hf hb hle hC hB hR (by rw[e];exact h1)
 refine oZ ?_
 have e2:ia (cd n) f (jW args) H=Mt (oL Tryd.prog KtG.kt 100000 f (cd n) (jW args) H):=by rcases h30 with rfl | rfl<;>rfl
 rw[e2,this]
 show some (En y.1.1,y.2)=_
 rw[h2,h3]
section
variable (n:Nat) (O:Int) (U:Nat) (Z:Nat→Int) (V:Nat) (J:Nat→Int) (H:aa)
noncomputable def uV:List Nat:=iR U (fun c=>gf J c V) (ev O U Z) U
noncomputable def Ja:AV:=if I5 O U Z V J=none then .tup [bk U (ar (kD (uV O U Z V J))) false,.int .i64 0] else .tup [.nils,.int .i64 13]
theorem Il {L:List Int} {m:Nat} (h:L.length=m):nz (fun _=>Int.ofNat 0) 0 (ar L) m=ar L:=by
 rw[rG];funext j;unfold wy;by_cases e:j<m
 · simp[e]
 · simp[e,qw,List.getD_eq_getElem?_getD,List.getElem?_eq_none (show L.length≤j by omega)]
theorem Us (hb:V≤1000) (h0:cr O U Z V J=0):cd (n+15) (.fn 38) [bX O U Z V J] H=some (Ja O U Z V J,H):=by
 obtain ⟨h1,h2,h3,h4,h5,h6⟩:=mh h0;have hS:=Pb O U Z V J h1.2 h3 h4 h5 h6;have h49:=fun H=>LC n O U Z V J H hb h0;have h74:∀ H,cd (n+14) (.fn 74) [shV O U Z V J (ev O U Z) (gH V J)] H=_:=fun H=>UA (n+5) O U Z V J (ev O U Z) (fun c=>gf J c V) H hS Hv h1.1;have en:CZ U (fun c=>gf J c V) (ev O U Z)=(I5 O U Z V J).isNone:=rfl;unfold Ja;rw[en] at h74;by_cases hp:I5 O U Z V J=none
 · rw[if_pos hp];rw[hp] at h74;have h74:∀ H,cd (n+14) (.fn 74) [shV O U Z V J (ev O U Z) (gH V J)] H=some (bk U (ar (kD (uV O U Z V J))) false,H):=h74;have hlen:(kD (uV O U Z V J)).length=U:=by
    unfold kD uV;rw[List.length_map,(sM hS Hv (by rw[en,hp];rfl) U (Nat.le_refl _)).len]
   have T:=W1 (n+14) O U Z V J (ev O U Z) (gH V J) H U (ar (kD (uV O U Z V J)));have e1:cg (Int.ofNat U)=U:=by rw[j9];rfl
   have e2:w6 U U=U:=by rw[w7];omega
   rw[e1,e2,Il hlen,fj] at T;refine FR (n:=n+14) (.inr rfl) Tryd.func38 rfl rfl T (bV _ _ (dL (dL (bo _) h49) h74)) (aj _ _) (ak _ _) ?_;clear T h49 h74;generalize ar (kD (uV O U Z V J))=Y;refine Tr.an rfl (Tr.af (fun q=>by simp[aW,bA] at q) (fun _=>Tr.an rfl (Tr.ae wG (Tr.af (fun q=>by cases q) (fun _=>?_)))));exact wF
 · rw[if_neg hp];have hp:¬ (I5 O U Z V J).isNone=true:=by rwa [Option.isNone_iff_eq_none]
   rw[if_neg hp] at h74;refine FR (n:=n+14) (.inr rfl) Tryd.func38 rfl rfl (SR (n+14) O U Z V J (ev O U Z) (gH V J) H) (bV _ _ (dL (dL (bo _) h49) h74)) (aj _ _) (ak _ _) ?_;exact Tr.an rfl (Tr.af (fun q=>by simp[aW,bA] at q) (fun _=>Tr.an rfl (Tr.af (fun _=>Tr.ai ⟨rfl,rfl⟩) (fun q=>by cases q))))
end
end Go.Eng
end
section
namespace Go.Eng
open Go.Proofs Go.Eng.Gall
end Go.Eng
end
section
namespace Go.Eng
open Go.Proofs Go.Eng.Gall
section
variable (n:Nat) (O:Int) (U:Nat) (Z:Nat→Int) (V:Nat) (J:Nat→Int) (H:aa)
variable (f t:Int) (m:Nat) (z:Nat→Int)
end
end Go.Eng
end
section
namespace Go.Eng
open Go.Proofs Go.Eng.Gall
section
variable (n:Nat) (O:Int) (U:Nat) (Z:Nat→Int) (V:Nat) (J:Nat→Int) (H:aa) (f t:Int) (m:Nat) (z:Nat→Int)
end
end Go.Eng
end
section
namespace Go.Eng
open Go.Proofs Go.Eng.Gall
section
variable (n:Nat) (O:Int) (U:Nat) (Z:Nat→Int) (V:Nat) (J:Nat→Int) (H:aa) (f t:Int) (m:Nat) (z:Nat→Int)
end
end Go.Eng
end
section
namespace Go.Eng
open Go.Proofs Go.Eng.Gall Go.Eng.Q
theorem Bm (L:List Nat) (j:Nat):ar (kD L) j=((L.getD j 0:Nat):Int):=by
 rw[qw];unfold kD;rw[List.getD_eq_getElem?_getD,List.getElem?_map,List.getD_eq_getElem?_getD];cases L[j]?<;>rfl
theorem nq {z:Nat→Int} {m i:Nat} (h:i<(nF z m).length):(nF z m)[i]=(z i).toNat:=by
 simp[nF]
theorem lM (z:Nat→Int) (m:Nat):(nF z m).length=m:=by unfold nF;simp
theorem zq (z:Nat→Int) {m i:Nat} (h:i≤m):(nF z m).take i=nF z i:=by
 refine List.ext_getElem (by rw[List.length_take,lM,lM];omega) (fun j a b=>?_);rw[List.getElem_take,nq,nq]
theorem MM (L:List Nat):nF (ar (kD L)) L.length=L:=by
 refine List.ext_getElem (lM _ _) (fun j a b=>?_);rw[nq,Bm,Int.toNat_natCast,List.getD_eq_getElem?_getD,List.getElem?_eq_getElem b];rfl
section
variable {O:Int} {U:Nat} {Z:Nat→Int} {V:Nat} {J:Nat→Int}
theorem NZ (h0:cr O U Z V J=0) {m:Nat} {z:Nat→Int}:LH U (ev O U Z) V J m z=0↔Eu z U m=true∧nF z m ∈ ro U (okW (ev O U Z) (gH V J)) U:=by
 obtain ⟨h1,h2,h3,h4,h5,h6⟩:=mh h0;have hb:∀ c,c<U→gf J c V<2 ^ U:=fun c _=>kR J c U V fun i hi=>(h5 i hi).1;rw[show gH V J=bI (fun c=>gf J c V) from rfl,jr h1.2 hb,NY];constructor
 · rintro ⟨hp,hs,hb2⟩;obtain ⟨p1,p2⟩:=jo.1 hp;have hn:=qG hp m (Nat.le_refl m);refine ⟨hp,by rw[lM,p1],hn,fun x hx=>?_,fun i hi=>?_⟩
   · obtain ⟨i,hi,rfl⟩:=jO.1 hx;have:=(p2 i hi).1;omega
   · have hi':i<m:=by rwa [lM] at hi
     have hr:=(p2 i hi').1;rw[nq,zq _ wO];refine ⟨fun a ha=>?_,?_⟩
     · have han:a<U:=by
        refine Nat.lt_of_not_le fun hge=>?_;rw[Nat.testBit_lt_two_pow (Nat.lt_of_lt_of_le (hb _ wO) (Nat.pow_le_pow_right wO hge))] at ha;cases ha
       obtain ⟨j,hj,hz⟩:=GO hp han;rcases Nat.lt_trichotomy j i with q | q | q
       · exact jO.2 ⟨j,q,by rw[hz];rfl⟩
       · subst q;have:=Dh h0 (a:Int);rw[lI h5] at this;rw[hz] at ha;have ha:(gf J a V).testBit a=true:=ha;rw[ha] at this;cases this
       · have:=hb2 j hj i q;rw[hz,show z i=((z i).toNat:Int) by omega,lI h5,ha] at this;cases this
     · have:=hs i hi';unfold Ds at this;rw[Bool.and_eq_true,decide_eq_true_iff,decide_eq_true_iff] at this;exact this
 · rintro ⟨hp,h⟩;obtain ⟨p1,p2⟩:=jo.1 hp;obtain ⟨r1,r2,r3,r4⟩:=h;refine ⟨hp,fun j hj=>?_,fun i hi j hj=>?_⟩
   · have:=(r4 j (by rw[lM];exact hj)).2;rw[nq] at this;unfold Ds;rw[Bool.and_eq_true,decide_eq_true_iff,decide_eq_true_iff];exact this
   · have hi1:=(p2 i hi).1;have hj1:=(p2 j wO).1;cases e:rf V J (z i) (z j) with
     | false=>rfl
     | true =>
       exfalso;rw[show z i=((z i).toNat:Int) by omega,show z j=((z j).toNat:Int) by omega,lI h5] at e;have:=(r4 j (by rw[lM];omega)).1;rw[nq,zq _ wO] at this;obtain ⟨k,hk,hz⟩:=jO.1 (this _ e);have h3:=(p2 k wO).1;exact (p2 i hi).2 k wO wO
theorem Pa (h0:cr O U Z V J=0) {L:List Nat} (hL:L ∈ ro U (okW (ev O U Z) (gH V J)) U):LH U (ev O U Z) V J U (ar (kD L))=0:=by
 obtain ⟨h1,h2,h3⟩:=lJ hL;refine (NZ h0).2 ⟨jo.2 ⟨rfl,fun i hi=>?_⟩,by rw[← h1,MM,h1];exact hL⟩;have hi':i<L.length:=by omega
 have hg:∀ j,(hj:j<L.length)→L.getD j 0=L[j]:=fun j hj=>by rw[List.getD_eq_getElem?_getD,List.getElem?_eq_getElem hj];rfl
 rw[Bm,hg i hi'];have:=h3 _ (List.getElem_mem hi');refine ⟨by omega,fun j hj=>?_⟩;rw[Bm,hg j wO];have:=(List.pairwise_iff_getElem.1 h2) j i wO hi' hj;have:L[j]≠L[i]:=this;omega
end
end Go.Eng
end
section
namespace Go.Eng
open Go.Proofs Go.Eng.Gall
end Go.Eng
end
section
namespace Go.Eng
open Go.Proofs Go.Eng.Gall
theorem b6:∀ b,(0,b) ∈ aO (a7 Tryd.f6)→b=.loop (part Tryd.f6 [1,1,1,1,1,1,1,0,1,0,1,1,1,0,1,0,0]):=eP (by kernel_rfl)
section
variable (O:Int) (U:Nat) (Z:Nat→Int) (V:Nat) (J:Nat→Int)
variable (n:Nat) (H:aa) (mo:Nat) (zo:Nat→Int) (f t:Int) (m:Nat) (z y:Nat→Int)
end
end Go.Eng
end
section
namespace Go.Eng
open Go.Proofs Go.Eng.Gall
section
variable (O:Int) (U:Nat) (Z:Nat→Int) (V:Nat) (J:Nat→Int) (n:Nat) (H:aa) (mo:Nat) (zo:Nat→Int) (f t:Int) (m:Nat) (z:Nat→Int)
end
end Go.Eng
end
section
namespace Go.Eng
open Go.Proofs Go.Eng.Gall
section
variable (O:Int) (U:Nat) (Z:Nat→Int) (V:Nat) (J:Nat→Int) (n:Nat) (H:aa) (mo:Nat) (zo:Nat→Int) (f t:Int) (m:Nat) (z:Nat→Int)
end
end Go.Eng
end
