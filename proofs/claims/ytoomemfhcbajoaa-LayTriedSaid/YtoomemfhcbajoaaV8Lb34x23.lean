/- Lay: the sort of at most twelve numbers in a row of the caller (turned from drop's Ki). -/
import Derived.Test.YtoomemfhcbajoaaV8Lp9x7
set_option linter.unusedVariables false
set_option linter.unusedSimpArgs false
set_option maxRecDepth 100000
section
namespace Go.Eng
open Go.Proofs
def OS (x l:Int):List AV→Option (Prop×AV)
 | [.int .u64 y]=>some (y=x,.int .i64 l)
 | _=>none
noncomputable def fz (p:Int) (mk z:Nat→Int) (s:AV) (v m:Nat):aV:=⟨false,[(v,.row (.M [.arr .i64 z m]))]⟩
noncomputable def vP (v m:Nat) (i:Int):aq:=[(0,.slc 3 0 v 0 1 m (some m)),(1,.int .i64 0),(2,.int .i64 (Int.ofNat m)),(6,.int .i64 i)]
noncomputable def ov (v m:Nat) (i j:Int):aq:=[(0,.slc 3 0 v 0 1 m (some m)),(1,.int .i64 0),(2,.int .i64 (Int.ofNat m)),(6,.int .i64 i),(7,.int .i64 j)]
theorem RI (n:Nat) (H:aa) (p:Int) (mk z z2:Nat→Int) (s:AV) (v m:Nat) (lim:Int):bz Try.prog (cd (n+4)) 100000 63 Try.f63 (KtL.kt 63) (il (FN (A5 aQ 91 [.slc 1 0 v 0 1 m (some m),.int .i64 0,.int .i64 (Int.ofNat m),.int .i64 lim] (aG::fz p mk z s v m::H) (.ok (.tup [],aG::fz p mk z2 s v m::H))) 92 (OS (Int.ofNat m) lim)) (n+4) 0) aT aU [(.slc 0 0 v 0 1 m (some m),none)] (fz p mk z s v m::H) =
 (fun (Z0:List AV)=>Tr.reqP (FU IntKind.u64 (Int.ofNat m)=Int.ofNat m) (Tr.reqP (Z0=Z0∧aG::{ lock:=false,bs:=[(v,ak.row (Row.M [ah.arr .i64 z m]))] } :: H=aG::{ lock:=false,bs:=[(v,ak.row (Row.M [ah.arr .i64 z m]))] } :: H) (Tr.ok ((AV.tup [],none),{ lock:=false,bs:=[(v,ak.row (Row.M [ah.arr .i64 z2 m]))] } :: H)))) [AV.slc 1 0 v 0 1 m (some m),AV.int .i64 (Int.ofNat 0),AV.int .i64 (Int.ofNat m),AV.int .i64 lim]:=by kernel_rfl
theorem RT (n:Nat) (H:aa) (p:Int) (mk z z2:Nat→Int) (s:AV) (v m:Nat) (lim:Int):bz Try.prog (cd (n+3)) 100000 91 Try.f91 (KtL.kt 91) (il (A5 aQ 96 [.slc 2 0 v 0 1 m (some m),.int .i64 0,.int .i64 (Int.ofNat m)] (aG::aG::fz p mk z s v m::H) (.ok (.tup [],aG::aG::fz p mk z2 s v m::H))) (n+3) 0) aT aU [(.slc 1 0 v 0 1 m (some m),none),(.int .i64 0,none),(.int .i64 (Int.ofNat m),none),(.int .i64 lim,none)] (aG::fz p mk z s v m::H) =
 Tr.ite (mU (cB .i64 (Int.ofNat m) (Int.ofNat 0)) (Int.ofNat 12)) (Tr.reqP ([AV.slc 2 0 v 0 1 m (some m),AV.int .i64 (Int.ofNat 0),AV.int .i64 (Int.ofNat m)]=[AV.slc 2 0 v 0 1 m (some m),AV.int .i64 (Int.ofNat 0),AV.int .i64 (Int.ofNat m)]∧aG::aG::{ lock:=false,bs:=[(v,ak.row (Row.M [ah.arr .i64 z m]))] } :: H=aG::aG::{ lock:=false,bs:=[(v,ak.row (Row.M [ah.arr .i64 z m]))] } :: H) (Tr.ok ((AV.tup [],none),aG::{ lock:=false,bs:=[(v,ak.row (Row.M [ah.arr .i64 z2 m]))] } :: H))) (Tr.ite (dX lim (Int.ofNat 0)) Tr.bad Tr.bad):=by kernel_rfl
theorem RV (n:Nat) (H:aa) (p:Int) (mk z z2:Nat→Int) (s:AV) (v m:Nat) (i2:Int):bz Try.prog (cd (n+2)) 100000 96 Try.f96 (KtL.kt 96) (il aQ n 2) (dp aT 0 (vP v m (bf .i64 0 1)) (aG::aG::aG::fz p mk z s v m::H) (.ok (.normal,hints (vP v m i2++[(12,.bool false)]),aG::aG::aG::fz p mk z2 s v m::H))) aU [(.slc 2 0 v 0 1 m (some m),none),(.int .i64 0,none),(.int .i64 (Int.ofNat m),none)] (aG::aG::fz p mk z s v m::H) =
 (fun (Z0:aq)=>Tr.reqP (Z0=Z0∧aG::aG::aG::{ lock:=false,bs:=[(v,ak.row (Row.M [ah.arr .i64 z m]))] } :: H=aG::aG::aG::{ lock:=false,bs:=[(v,ak.row (Row.M [ah.arr .i64 z m]))] } :: H) (Tr.ok ((AV.tup [],none),aG::aG::{ lock:=false,bs:=[(v,ak.row (Row.M [ah.arr .i64 z2 m]))] } :: H))) [(0,AV.slc 3 0 v 0 1 m (some m)),(1,AV.int .i64 (Int.ofNat 0)),(2,AV.int .i64 (Int.ofNat m)),(6,AV.int .i64 (bf .i64 (Int.ofNat 0) (Int.ofNat 1)))]:=by kernel_rfl
theorem Ob (n:Nat) (H:aa) (p:Int) (mk z z2:Nat→Int) (s:AV) (v m:Nat) (i j2:Int):aN (bA (n+2) 96 49) (il aQ n 2) (dp aT 2 (ov v m i i) (aG::aG::aG::fz p mk z s v m::H) (.ok (.normal,hints (ov v m i j2++[(30,.bool false)]),aG::aG::aG::fz p mk z2 s v m::H))) aU (part Try.f96 [1,0,0]) (hints (vP v m i)) (aG::aG::aG::fz p mk z s v m::H) =
 (fun (Z0:aq)=>((fun (Z1:aV)=>Tr.ite (cF i (Int.ofNat m)) (Tr.reqP (Z0=Z0∧aG::aG::aG::Z1::H=aG::aG::aG::Z1::H) (Tr.ok (Ex.normal,[(0,AV.slc 3 0 v 0 1 m (some m),none),(1,AV.int .i64 (Int.ofNat 0),none),(2,AV.int .i64 (Int.ofNat m),none),(6,AV.int .i64 (bf .i64 i (Int.ofNat 1)),none)],aG::aG::aG::{ lock:=false,bs:=[(v,ak.row (Row.M [ah.arr .i64 z2 m]))] } :: H))) (Tr.ok (Ex.exit 0,[(0,AV.slc 3 0 v 0 1 m (some m),none),(1,AV.int .i64 (Int.ofNat 0),none),(2,AV.int .i64 (Int.ofNat m),none),(6,AV.int .i64 i,none),(12,AV.bool false,some 1)],aG::aG::aG::Z1::H))) { lock:=false,bs:=[(v,ak.row (Row.M [ah.arr .i64 z m]))] })) [(0,AV.slc 3 0 v 0 1 m (some m)),(1,AV.int .i64 (Int.ofNat 0)),(2,AV.int .i64 (Int.ofNat m)),(6,AV.int .i64 i),(7,AV.int .i64 i)]:=by kernel_rfl
theorem Oa (n:Nat) (H:aa) (p:Int) (mk z:Nat→Int) (s:AV) (v m:Nat) (i:Int):aN (bA (n+2) 96 49) (il aQ n 2) (m4 aT 2) aU (part Try.f96 [1,0,0]) (hints (vP v m i)) (aG::aG::aG::fz p mk z s v m::H) =
 Tr.ite (cF i (Int.ofNat m)) Tr.bad (Tr.ok (Ex.exit 0,[(0,AV.slc 3 0 v 0 1 m (some m),none),(1,AV.int .i64 (Int.ofNat 0),none),(2,AV.int .i64 (Int.ofNat m),none),(6,AV.int .i64 i,none),(12,AV.bool false,some 1)],aG::aG::aG::{ lock:=false,bs:=[(v,ak.row (Row.M [ah.arr .i64 z m]))] } :: H)):=by kernel_rfl
theorem JQ (n:Nat) (H:aa) (p:Int) (mk z:Nat→Int) (s:AV) (v m:Nat) (i j:Int):aN (bA (n+2) 96 49) (il aQ n 2) aT aU (part Try.f96 [1,0,0,1,0,0,1,0,0]) (hints (ov v m i j)) (aG::aG::aG::fz p mk z s v m::H) =
 (fun (Z0:aC)=>((fun (Z1:aC)=>((fun (Z2:aV)=>((fun (Z3:aV)=>Tr.ite (cF (Int.ofNat 0) j) (Tr.req (dJ j m) (Tr.req (cT v v) (Tr.req (dg (aA 0 j 1) m) (Tr.req (dJ (cB .i64 j (Int.ofNat 1)) m) (Tr.req (cT v v) (Tr.req (dg (aA 0 (cB .i64 j (Int.ofNat 1)) 1) m) (Tr.ite (bx (dX (z (aA 0 j 1)) (z (aA 0 j 1)))) (Tr.ite (bx (bx (dX (z (aA 0 (cB .i64 j (Int.ofNat 1)) 1)) (z (aA 0 (cB .i64 j (Int.ofNat 1)) 1))))) (Tr.req (dJ (cB .i64 j (Int.ofNat 1)) m) (Tr.req (cT v v) (Tr.req (dg (aA 0 (cB .i64 j (Int.ofNat 1)) 1) m) (Tr.req (dJ j m) (Tr.req (cT v v) (Tr.req (dg (aA 0 j 1) m) (Tr.req (dJ j m) (Tr.req (cT v v) (Tr.req (dg (aA 0 j 1) m) (Tr.req (jI (jz v v) (jz v (Nat.succ v))) (Tr.req (dJ (cB .i64 j (Int.ofNat 1)) m) (Tr.req (cT v v) (Tr.req (dg (aA 0 (cB .i64 j (Int.ofNat 1)) 1) m) (Tr.req (jI (jz v v) (jz v (Nat.succ v))) (Tr.ok (Ex.normal,Z1,aG::aG::aG::Z2::H)))))))))))))))) (Tr.ite (cF (z (aA 0 j 1)) (z (aA 0 (cB .i64 j (Int.ofNat 1)) 1))) (Tr.req (dJ (cB .i64 j (Int.ofNat 1)) m) (Tr.req (cT v v) (Tr.req (dg (aA 0 (cB .i64 j (Int.ofNat 1)) 1) m) (Tr.req (dJ j m) (Tr.req (cT v v) (Tr.req (dg (aA 0 j 1) m) (Tr.req (dJ j m) (Tr.req (cT v v) (Tr.req (dg (aA 0 j 1) m) (Tr.req (jI (jz v v) (jz v (Nat.succ v))) (Tr.req (dJ (cB .i64 j (Int.ofNat 1)) m) (Tr.req (cT v v) (Tr.req (dg (aA 0 (cB .i64 j (Int.ofNat 1)) 1) m) (Tr.req (jI (jz v v) (jz v (Nat.succ v))) (Tr.ok (Ex.normal,Z1,aG::aG::aG::Z2::H)))))))))))))))) (Tr.ok (Ex.exit 2,Z0,aG::aG::aG::Z3::H)))) (Tr.ite (cF (z (aA 0 j 1)) (z (aA 0 (cB .i64 j (Int.ofNat 1)) 1))) (Tr.req (dJ (cB .i64 j (Int.ofNat 1)) m) (Tr.req (cT v v) (Tr.req (dg (aA 0 (cB .i64 j (Int.ofNat 1)) 1) m) (Tr.req (dJ j m) (Tr.req (cT v v) (Tr.req (dg (aA 0 j 1) m) (Tr.req (dJ j m) (Tr.req (cT v v) (Tr.req (dg (aA 0 j 1) m) (Tr.req (jI (jz v v) (jz v (Nat.succ v))) (Tr.req (dJ (cB .i64 j (Int.ofNat 1)) m) (Tr.req (cT v v) (Tr.req (dg (aA 0 (cB .i64 j (Int.ofNat 1)) 1) m) (Tr.req (jI (jz v v) (jz v (Nat.succ v))) (Tr.ok (Ex.normal,Z1,aG::aG::aG::Z2::H)))))))))))))))) (Tr.ok (Ex.exit 2,Z0,aG::aG::aG::Z3::H)))))))))) (Tr.ok (Ex.exit 2,Z0,aG::aG::aG::Z3::H))) { lock:=false,bs:=[(v,ak.row (Row.M [ah.arr .i64 z m]))] })) { lock:=false,bs:=[(v,ak.row (Row.M [ah.arr .i64 (c7 (c7 z (aA 0 j 1) (z (aA 0 (cB .i64 j (Int.ofNat 1)) 1))) (aA 0 (cB .i64 j (Int.ofNat 1)) 1) (z (aA 0 j 1))) m]))] })) [(0,AV.slc 3 0 v 0 1 m (some m),none),(1,AV.int .i64 (Int.ofNat 0),none),(2,AV.int .i64 (Int.ofNat m),none),(6,AV.int .i64 i,none),(7,AV.int .i64 (cB .i64 j (Int.ofNat 1)),none)])) [(0,AV.slc 3 0 v 0 1 m (some m),none),(1,AV.int .i64 (Int.ofNat 0),none),(2,AV.int .i64 (Int.ofNat m),none),(6,AV.int .i64 i,none),(7,AV.int .i64 j,none),(30,AV.bool false,some 1)]:=by kernel_rfl
noncomputable def J8 (z:Nat→Int) (j:Nat):Nat→Int:=c7 (c7 z j (z (j-1))) (j-1) (z j)
noncomputable def xQ (z:Nat→Int):Nat→Nat→Int
 | 0=>z
 | j+1=>if z (j+1)<z j then xQ (J8 z (j+1)) j else z
noncomputable def mQ (z:Nat→Int):Nat→Nat→Int
 | 0=>z
 | k+1=>xQ (mQ z k) (k+1)
section
variable (n:Nat) (H:aa) (p:Int) (mk z:Nat→Int) (s:AV) (v m:Nat)
theorem O7:∀ b,(0,b) ∈ aM (bR Try.f96)→b=.loop (part Try.f96 [1,0,0]):=g7 (by kernel_rfl)
theorem Mk:∀ b,(2,b) ∈ aM (part Try.f96 [1,0,0])→b=.loop (part Try.f96 [1,0,0,1,0,0,1,0,0]):=g7 (by kernel_rfl)
theorem Nu (i:Nat) (hi:i<m) (hm:m≤100):∃ y:aq×aa,exec (bA (n+2) 96 49) (.block 2 (.loop (part Try.f96 [1,0,0,1,0,0,1,0,0]))) (ov v m i i) (aG::aG::aG::fz p mk z s v m::H)=some (.normal,y)∧∃ j2:Int,y=(ov v m i j2++[(30,.bool false)],aG::aG::aG::fz p mk (xQ z i) s v m::H):=by
 refine EH (n:=n+2) (f:=96) (nt:=49) (c:=part Try.f96 [1,0,0,1,0,0,1,0,0]) 2 (fun k fr G=>∃ (z':Nat→Int) (j:Nat),j+k=i∧fr=ov v m i j∧G=aG::aG::aG::fz p mk z' s v m::H∧xQ z' j=xQ z i) _ (i+1) (by omega) ⟨z,i,by omega,rfl,rfl,rfl⟩ (fun k fr G hI=>?_)
 obtain ⟨z',j,h1,rfl,rfl,h2⟩:=hI
 rw[← h2]
 cases j with
 | zero =>
   obtain ⟨x,hx1,hx2⟩:=aO (Q:=fun x=>x=(.exit 2,ov v m i ((0:Nat):Int)++[(30,.bool false)],aG::aG::aG::fz p mk z' s v m::H)) (JQ n H p mk z' s v m (i:Int) ((0:Nat):Int)) (lj n 2) (af _ _) (ag _ _) (by
    exact wF)
   exact ⟨x,hx1,.inr (by rw[hx2];exact ⟨rfl,_,rfl⟩)⟩
 | succ j =>
   have es:cB .i64 ((j+1:Nat):Int) (Int.ofNat 1)=(j:Int):=by rw[mF,show Int.ofNat 1=1 from rfl,lq (by omega) (by omega)];omega
   have ed:aA 0 ((j+1:Nat):Int) 1=j+1:=by rw[kG];omega
   have ee:aA 0 (j:Int) 1=j:=by rw[kG];omega
   have eu:c7 (c7 z' (j+1) (z' j)) j (z' (j+1))=J8 z' (j+1):=rfl
   by_cases hlt:z' (j+1)<z' j
   · obtain ⟨x,hx1,hx2⟩:=aO (Q:=fun x=>x.1=.normal∧tidy 0 x.2.1 x.2.2=(ov v m i (j:Int),aG::aG::aG::fz p mk (J8 z' (j+1)) s v m::H)) (JQ n H p mk z' s v m (i:Int) ((j+1:Nat):Int)) (lj n 2) (af _ _) (ag _ _) (by
      rw[es,ed,ee,eu]
      exact wF)
     refine ⟨x,hx1,.inl ⟨hx2.1,by omega,J8 z' (j+1),j,by omega,?_,?_,?_⟩⟩
     · have:=congrArg Prod.fst hx2.2
       exact this
     · have:=congrArg Prod.snd hx2.2
       exact this
     · show _=(if z' (j+1)<z' j then xQ (J8 z' (j+1)) j else z')
       rw[if_pos hlt]
   · obtain ⟨x,hx1,hx2⟩:=aO (Q:=fun x=>x=(.exit 2,ov v m i ((j+1:Nat):Int)++[(30,.bool false)],aG::aG::aG::fz p mk z' s v m::H)) (JQ n H p mk z' s v m (i:Int) ((j+1:Nat):Int)) (lj n 2) (af _ _) (ag _ _) (by
      rw[es,ed,ee,eu]
      exact wF)
     refine ⟨x,hx1,.inr ?_⟩
     rw[hx2]
     refine ⟨rfl,((j+1:Nat):Int),?_⟩
     rw[show xQ z' (j+1)=(if z' (j+1)<z' j then xQ (J8 z' (j+1)) j else z') from rfl,if_neg hlt]
theorem Rb (h1:1≤m) (hm:m≤100):exec (bA (n+2) 96 49) (.block 0 (.loop (part Try.f96 [1,0,0]))) (vP v m ((1:Nat):Int)) (aG::aG::aG::fz p mk z s v m::H)=some (.normal,vP v m ((m:Nat):Int)++[(12,.bool false)],aG::aG::aG::fz p mk (mQ z (m-1)) s v m::H):=by
 have:=ot (n:=n+2) (f:=96) (nt:=49) (c:=part Try.f96 [1,0,0]) 0 (fun k=>vP v m ((k+1:Nat):Int)) (fun k=>aG::aG::aG::fz p mk (mQ z k) s v m::H) (m-1) (vP v m ((m:Nat):Int)++[(12,.bool false)],aG::aG::aG::fz p mk (mQ z (m-1)) s v m::H) (by omega) (fun k hk=>?_) ?_
 · exact this
 · obtain ⟨y,hy,j2,rfl⟩:=Nu n H p mk (mQ z k) s v m (k+1) (by omega) hm
   have ej:bf .i64 ((k+1:Nat):Int) (Int.ofNat 1)=((k+1+1:Nat):Int):=by rw[jc,show Int.ofNat 1=1 from rfl];exact lq (by omega) (by omega)
   refine aO (Ob n H p mk (mQ z k) (mQ z (k+1)) s v m ((k+1:Nat):Int) j2) (lj n 2) (aW (af _ _) Mk (fun x hx=>by rw[← Tr.ab hx];simp only[nS.st,gT];exact hy)) (ag _ _) ?_
   rw[ej]
   exact wF
 · have e:((m-1+1:Nat):Int)=(m:Int):=by omega
   rw[e]
   obtain ⟨x,h1,rfl⟩:=aO (Q:=fun x=>x=(.exit 0,vP v m ((m:Nat):Int)++[(12,.bool false)],aG::aG::aG::fz p mk (mQ z (m-1)) s v m::H)) (Oa n H p mk (mQ z (m-1)) s v m (m:Int)) (lj n 2) (eK (af _ _) 2) (ag _ _) (by
    exact wF)
   exact h1
theorem Px (h1:1≤m) (hm:m≤100):cd (n+3) (.fn 96) [.slc 2 0 v 0 1 m (some m),.int .i64 0,.int .i64 (Int.ofNat m)] (aG::aG::fz p mk z s v m::H)=some (.tup [],aG::aG::fz p mk (mQ z (m-1)) s v m::H):=by
 have l:=Rb n H p mk z s v m h1 hm
 have e1:bf .i64 0 1=((1:Nat):Int):=by rw[jc];rfl
 refine aR (n:=n+2) Try.func96 rfl rfl rfl (RV n H p mk z (mQ z (m-1)) s v m ((m:Nat):Int)) (lj n 2) (aW (af _ _) O7 (fun x hx=>by rw[← Tr.ab hx,e1];simp only[nS.st,gT];exact l)) (ag _ _) ?_
 exact wF
theorem Pu (h1:1≤m) (hm:m≤12) (lim:Int):cd (n+4) (.fn 91) [.slc 1 0 v 0 1 m (some m),.int .i64 0,.int .i64 (Int.ofNat m),.int .i64 lim] (aG::fz p mk z s v m::H)=some (.tup [],aG::fz p mk (mQ z (m-1)) s v m::H):=by
 refine aR (n:=n+3) Try.func91 rfl rfl rfl (RT n H p mk z (mQ z (m-1)) s v m lim) (xP _ (n+3) 0 (fun k=>iG (aX _) (fun x hx=>?_))) (af _ _) (ag _ _) ?_
 · rw[← Tr.ab hx,show n+3+k=n+k+3 by omega]
   exact Px (n+k) H p mk z s v m h1 (by omega)
 · exact wF
def oI (x:Nat):Int:=if x<2 then 1 else if x<4 then 2 else if x<8 then 3 else 4
theorem Kj (n:Nat) (H:aa):cd (n+3) (.fn 92) [.int .u64 (Int.ofNat 1)] H=some (.int .i64 (oI 1),H):=by kernel_rfl
theorem Kk (n:Nat) (H:aa):cd (n+3) (.fn 92) [.int .u64 (Int.ofNat 2)] H=some (.int .i64 (oI 2),H):=by kernel_rfl
theorem Kl (n:Nat) (H:aa):cd (n+3) (.fn 92) [.int .u64 (Int.ofNat 3)] H=some (.int .i64 (oI 3),H):=by kernel_rfl
theorem Km (n:Nat) (H:aa):cd (n+3) (.fn 92) [.int .u64 (Int.ofNat 4)] H=some (.int .i64 (oI 4),H):=by kernel_rfl
theorem Kn (n:Nat) (H:aa):cd (n+3) (.fn 92) [.int .u64 (Int.ofNat 5)] H=some (.int .i64 (oI 5),H):=by kernel_rfl
theorem Ko (n:Nat) (H:aa):cd (n+3) (.fn 92) [.int .u64 (Int.ofNat 6)] H=some (.int .i64 (oI 6),H):=by kernel_rfl
theorem Kp (n:Nat) (H:aa):cd (n+3) (.fn 92) [.int .u64 (Int.ofNat 7)] H=some (.int .i64 (oI 7),H):=by kernel_rfl
theorem Kq (n:Nat) (H:aa):cd (n+3) (.fn 92) [.int .u64 (Int.ofNat 8)] H=some (.int .i64 (oI 8),H):=by kernel_rfl
theorem Kr (n:Nat) (H:aa):cd (n+3) (.fn 92) [.int .u64 (Int.ofNat 9)] H=some (.int .i64 (oI 9),H):=by kernel_rfl
theorem ID (n:Nat) (H:aa):cd (n+3) (.fn 92) [.int .u64 (Int.ofNat 10)] H=some (.int .i64 (oI 10),H):=by kernel_rfl
theorem IE (n:Nat) (H:aa):cd (n+3) (.fn 92) [.int .u64 (Int.ofNat 11)] H=some (.int .i64 (oI 11),H):=by kernel_rfl
theorem IF (n:Nat) (H:aa):cd (n+3) (.fn 92) [.int .u64 (Int.ofNat 12)] H=some (.int .i64 (oI 12),H):=by kernel_rfl
theorem Pv (x:Nat) (hx:1≤x∧x≤12) (n:Nat) (H:aa):cd (n+3) (.fn 92) [.int .u64 (Int.ofNat x)] H=some (.int .i64 (oI x),H):=by
 have:x=1∨x=2∨x=3∨x=4∨x=5∨x=6∨x=7∨x=8∨x=9∨x=10∨x=11∨x=12:=by omega
 rcases this with rfl | rfl | rfl | rfl | rfl | rfl | rfl | rfl | rfl | rfl | rfl | rfl
 · exact Kj n H
 · exact Kk n H
 · exact Kl n H
 · exact Km n H
 · exact Kn n H
 · exact Ko n H
 · exact Kp n H
 · exact Kq n H
 · exact Kr n H
 · exact ID n H
 · exact IE n H
 · exact IF n H
theorem Pj (h1:1≤m) (hm:m≤12):cd (n+5) (.fn 63) [.slc 0 0 v 0 1 m (some m)] (fz p mk z s v m::H)=some (.tup [],fz p mk (mQ z (m-1)) s v m::H):=by
 have ew:FU .u64 (Int.ofNat m)=Int.ofNat m:=by
  rw[AH]
  simp only[IntKind.wrap,IntKind.signed,IntKind.bits]
  simp
  omega
 refine aR (n:=n+4) Try.func63 rfl rfl rfl (RI n H p mk z (mQ z (m-1)) s v m (oI m)) (xP _ (n+4) 0 (fun k=>rP (iG (aX _) (fun x hx=>?_)) (fun args p' v' hg hp H=>?_))) (af _ _) (ag _ _) ?_
 · rw[← Tr.ab hx,show n+4+k=n+k+4 by omega]
   exact Pu (n+k) H p mk z s v m h1 hm _
 · unfold OS at hg
   split at hg
   · simp only[nP] at hg
     obtain ⟨rfl,rfl⟩:=hg
     subst hp
     rw[show n+4+k=n+1+k+3 by omega]
     exact Pv m ⟨h1,hm⟩ _ H
   · cases hg
 · rw[ew]
   refine Tr.bg rfl (Tr.bg ⟨rfl,rfl⟩ (Tr.bc ⟨rfl,rfl⟩))
end
end Go.Eng
end
section
namespace Go.Eng
open Go.Proofs
noncomputable def BC (m:Nat) (o:Nat→Int):aV:=⟨false,[(0,.row (.M [.arr .i64 (ik (fun _=>Int.ofNat 0) 0 o (pU m (fa (Int.ofNat m)))) (fa (Int.ofNat m))]))]⟩
noncomputable def BD (m:Nat) (y:Nat→Int):aV:=⟨false,[(0,.row (.M [.arr .i64 y (fa (Int.ofNat m))]))]⟩
noncomputable def Bc (l:Nat) (t:Nat→Int) (k:Nat) (d e:Nat→Int) (h:Int) (m:Nat) (o:Nat→Int):aq:=[(8,.ptr 2 1 0 0),(22,.fn (.func 85) [] [.ptrT (some 2) (.G [dK 0 l t k d e]) 0,.ptrT none (.I .i64 [h]) 0]),(23,dc m o false)]
noncomputable def ux (m:Nat) (o:Nat→Int):aq:=[(8,.ptr 2 1 0 0),(9,dc m o false)]
theorem Lu (n l k:Nat) (t d e:Nat→Int) (h:Int) (m:Nat) (o:Nat→Int) (L:gM) (L1:aV) (H:aa):aN (vD n 27 37 2 2) (il aQ n 0) aT aU (part Try.f27 [1,1,1,1,0,1,0,0]) (hints (Bc l t k d e h m o)) (aG::L1::vZ l t k d L::H) =
 Tr.ok (Ex.normal,[(8,AV.ptr 2 1 0 0,none),(9,AV.slcT none (Row.M [ah.arr .i64 o m]) 1 m false,none)],aG::L1::{ lock:=false,bs:=[(0,ak.row (Row.G [AV.slcT none (Row.M [ah.arr .i64 t l]) 1 l false,AV.slcT none (Row.M [ah.arr .i64 d k]) 1 k false])),(0,ak.row (Row.G [AV.nils])),(0,ak.loop L)] } :: H):=by kernel_rfl
theorem Ls (n l k:Nat) (t d:Nat→Int) (m:Nat) (o y:Nat→Int) (L:gM) (L1:aV) (H:aa):aN (vD n 27 37 2 2) (il (A5 aQ 63 [.slc 0 0 0 0 1 (fa (Int.ofNat m)) (some (fa (Int.ofNat m)))] (BC m o::L1::vZ l t k d L::H) (.ok (.tup [],BD m y::L1::vZ l t k d L::H))) n 0) aT aU (part Try.f27 [1,1,1,1,0,1,0,1]) (hints (ux m o)) (aG::L1::vZ l t k d L::H) =
 (fun (Z0:Nat×ak)=>((fun (Z1:aV)=>Tr.req (EO (Int.ofNat m) (Int.ofNat m) 8) (Tr.req (jz (pU m (fa (Int.ofNat m))) m) (Tr.req (jz (cM 0 (pU m (fa (Int.ofNat m)))) m) (Tr.req (cT 0 0) (Tr.req (kH 0 (pU m (fa (Int.ofNat m))) 0 (fa (Int.ofNat m))) (Tr.reqP ([AV.slc 0 0 0 0 1 (fa (Int.ofNat m)) (some (fa (Int.ofNat m)))]=[AV.slc 0 0 0 0 1 (fa (Int.ofNat m)) (some (fa (Int.ofNat m)))]∧Z1::L1::{ lock:=false,bs:=[Z0,(0,ak.row (Row.G [AV.nils])),(0,ak.loop L)] } :: H=Z1::L1::{ lock:=false,bs:=[Z0,(0,ak.row (Row.G [AV.nils])),(0,ak.loop L)] } :: H) (Tr.req (cT 0 0) (Tr.req (kH 0 (fa (Int.ofNat m)) 0 (fa (Int.ofNat m))) (Tr.req (j8 0 1 24) (Tr.req (cT 0 0) (Tr.req (jz 1 1) (Tr.ok (Ex.normal,[],{ lock:=false,bs:=[(0,ak.dead),(0,ak.row (Row.G [AV.slcT none (Row.M [ah.arr .i64 (ep y 0) (fa (Int.ofNat m))]) 1 (fa (Int.ofNat m)) (cT (fa (Int.ofNat m)) (fa (Int.ofNat m)))])),(0,ak.dead)] } :: L1::{ lock:=false,bs:=[Z0,(0,ak.row (Row.G [AV.slc 0 3 0 0 1 1 none])),(0,ak.loop L),(0,ak.row (Row.F (fun x=>AV.slcT none (Row.M [ah.arr .i64 (ep y 0) (fa (Int.ofNat m))]) 1 (fa (Int.ofNat m)) false) 1))] } :: H))))))))))))) { lock:=false,bs:=[(0,ak.row (Row.M [ah.arr .i64 (ik (fun x=>Int.ofNat 0) 0 o (pU m (fa (Int.ofNat m)))) (fa (Int.ofNat m))]))] })) (0,ak.row (Row.G [AV.slcT none (Row.M [ah.arr .i64 t l]) 1 l false,AV.slcT none (Row.M [ah.arr .i64 d k]) 1 k false])):=by kernel_rfl
theorem Lw (n l k:Nat) (t d e:Nat→Int) (h:Int) (m:Nat) (o:Nat→Int) (L:gM) (v q:Nat) (f:Nat→Nat→Int) (g:Nat→Nat) (L1:aV) (H:aa):aN (vD n 27 37 2 2) (il aQ n 0) aT aU (part Try.f27 [1,1,1,1,0,1,0,0]) (hints (Bc l t k d e h m o)) (aG::L1::jk l t k d L v q f g::H) =
 Tr.ok (Ex.normal,[(8,AV.ptr 2 1 0 0,none),(9,AV.slcT none (Row.M [ah.arr .i64 o m]) 1 m false,none)],aG::L1::{ lock:=false,bs:=[(0,ak.row (Row.G [AV.slcT none (Row.M [ah.arr .i64 t l]) 1 l false,AV.slcT none (Row.M [ah.arr .i64 d k]) 1 k false])),(0,ak.row (Row.G [AV.slc 0 3 v 0 1 q none])),(0,ak.loop L),(v,ak.row (Row.F (fun j=>AV.slcT none (Row.M [ah.arr .i64 (f j) (g j)]) 1 (g j) false) q))] } :: H):=by kernel_rfl
theorem Lt (n l k:Nat) (t d:Nat→Int) (m:Nat) (o y:Nat→Int) (L:gM) (v q:Nat) (f:Nat→Nat→Int) (g:Nat→Nat) (L1:aV) (H:aa):aN (vD n 27 37 2 2) (il (A5 aQ 63 [.slc 0 0 0 0 1 (fa (Int.ofNat m)) (some (fa (Int.ofNat m)))] (BC m o::L1::jk l t k d L v q f g::H) (.ok (.tup [],BD m y::L1::jk l t k d L v q f g::H))) n 0) aT aU (part Try.f27 [1,1,1,1,0,1,0,1]) (hints (ux m o)) (aG::L1::jk l t k d L v q f g::H) =
 (fun (Z0:aV)=>((fun (Z1:aV)=>Tr.req (EO (Int.ofNat m) (Int.ofNat m) 8) (Tr.req (jz (pU m (fa (Int.ofNat m))) m) (Tr.req (jz (cM 0 (pU m (fa (Int.ofNat m)))) m) (Tr.req (cT 0 0) (Tr.req (kH 0 (pU m (fa (Int.ofNat m))) 0 (fa (Int.ofNat m))) (Tr.reqP ([AV.slc 0 0 0 0 1 (fa (Int.ofNat m)) (some (fa (Int.ofNat m)))]=[AV.slc 0 0 0 0 1 (fa (Int.ofNat m)) (some (fa (Int.ofNat m)))]∧Z1::L1::Z0::H=Z1::L1::Z0::H) (Tr.req (cT 0 0) (Tr.req (kH 0 (fa (Int.ofNat m)) 0 (fa (Int.ofNat m))) (Tr.req (j8 q 1 24) (Tr.req (cT 0 0) (Tr.req (jz 1 1) (Tr.req (cT v v) (Tr.req (cT (cM 0 q) q) (Tr.reqP (DG (fun j=>AV.slcT none (Row.M [ah.arr .i64 (f (cM 0 j)) (g (cM 0 j))]) 1 (g (cM 0 j)) false) IntKind.i64 1 false) (Tr.ok (Ex.normal,[],{ lock:=false,bs:=[(0,ak.dead),(0,ak.row (Row.G [AV.slcT none (Row.M [ah.arr .i64 (ep y 0) (fa (Int.ofNat m))]) 1 (fa (Int.ofNat m)) (cT (fa (Int.ofNat m)) (fa (Int.ofNat m)))]))] } :: L1::{ lock:=false,bs:=[(0,ak.row (Row.G [AV.slcT none (Row.M [ah.arr .i64 t l]) 1 l false,AV.slcT none (Row.M [ah.arr .i64 d k]) 1 k false])),(0,ak.row (Row.G [AV.slc 0 3 (Nat.succ v) 0 1 (cM q 1) none])),(0,ak.loop L),(Nat.succ v,ak.row (Row.F (fun j=>AV.slcT none (Row.M [ah.arr .i64 (Hg (dg j q) (f (cM 0 j)) (ep y 0)) (Dq (dg j q) (g (cM 0 j)) (fa (Int.ofNat m)))]) 1 (Dq (dg j q) (g (cM 0 j)) (fa (Int.ofNat m))) false) (cM q 1)))] } :: H)))))))))))))))) { lock:=false,bs:=[(0,ak.row (Row.M [ah.arr .i64 (ik (fun x=>Int.ofNat 0) 0 o (pU m (fa (Int.ofNat m)))) (fa (Int.ofNat m))]))] })) { lock:=false,bs:=[(0,ak.row (Row.G [AV.slcT none (Row.M [ah.arr .i64 t l]) 1 l false,AV.slcT none (Row.M [ah.arr .i64 d k]) 1 k false])),(0,ak.row (Row.G [AV.slc 0 3 v 0 1 q none])),(0,ak.loop L),(v,ak.row (Row.F (fun j=>AV.slcT none (Row.M [ah.arr .i64 (f j) (g j)]) 1 (g j) false) q))] }:=by kernel_rfl
noncomputable def xZ:Code:=part Try.f27 [1,1,1,1,0,1,0,0]
noncomputable def x0:Code:=part Try.f27 [1,1,1,1,0,1,0,1]
noncomputable def dz (l:Nat) (t:Nat→Int) (k:Nat) (d e:Nat→Int) (h:Int):gM:={ state:=.ready,pending:=none,fn:=27,nt:=37,fr:=[(8,.ptr 0 1 0 0),(22,.fn (.func 85) [] [.ptrT (some 0) (.G [dK 0 l t k d e]) 0,.ptrT none (.I .i64 [h]) 0])],params:=[23],assign:=xZ,body:=x0 }
noncomputable def Az (m:Nat) (o:Nat→Int):Nat→Int:=mQ (ik (fun _=>Int.ofNat 0) 0 o m) (m-1)
theorem rn (m:Nat):fa (Int.ofNat m)=m:=by rw[qa];rfl
section
variable (n l k:Nat) (t d e:Nat→Int) (h:Int) (m:Nat) (o:Nat→Int) (L1:aV) (H:aa)
theorem Kh (G:aa) (h1:1≤m) (hm:m≤12):cd (n+5) (.fn 63) [.slc 0 0 0 0 1 (fa (Int.ofNat m)) (some (fa (Int.ofNat m)))] (BC m o::G)=some (.tup [],BD m (Az m o)::G):=by
 have:=Pj n G 0 (fun _=>0) (ik (fun _=>Int.ofNat 0) 0 o m) .undef 0 m h1 hm
 unfold BC BD Az
 rw[rn,oP,Nat.min_self]
 exact this
theorem Ln (h1:1≤m) (hm:m≤12):cd (n+6) (.round 1 2) [dc m o false] (L1::vZ l t k d (dz l t k d e h)::H)=some (.bool true,L1::jk l t k d (dz l t k d e h) 0 1 (fun _=>Az m o) (fun _=>m)::H):=by
 have h1':exec (vD (n+5) 27 37 2 2) xZ (Bc l t k d e h m o) (aG::L1::vZ l t k d (dz l t k d e h)::H)=some (.normal,ux m o,aG::L1::vZ l t k d (dz l t k d e h)::H) :=
  py (Lu (n+5) l k t d e h m o (dz l t k d e h) L1 H) (aB _) (af _ _) (ag _ _) (Tr.bc rfl)
 have h2':∃ lv:aV,exec (vD (n+5) 27 37 2 2) x0 (ux m o) (aG::L1::vZ l t k d ({ dz l t k d e h with state:=.busy })::H)=some (.normal,[],lv::L1::jk l t k d ({ dz l t k d e h with state:=.busy }) 0 1 (fun _=>Az m o) (fun _=>m)::H):=by
  refine ⟨⟨false,[(0,.dead),(0,.row (.G [.slcT none (.M [.arr .i64 (Az m o) m]) 1 m (cT m m)])),(0,.dead)]⟩,py (Ls (n+5) l k t d m o (Az m o) { dz l t k d e h with state:=.busy } L1 H) (bj _ (n+5) (iG (aX _) (fun x hx=>by rw[← Tr.ab hx];exact Kh n m o _ h1 hm))) (af _ _) (ag _ _) ?_⟩
  generalize dz l t k d e h=L at *
  generalize Az m o=Y at *
  simp only[rn,gi,wO,wN,bK,gd,Nat.zero_add,Bool.cond_decide,oP,Nat.min_self,and_self]
  exact wF
 obtain ⟨lv,h2'⟩:=h2'
 exact sP (l:=dz l t k d e h) (l2:={ dz l t k d e h with state:=.busy }) rfl rfl rfl rfl h1' h2' rfl rfl
theorem Lo (v q:Nat) (f:Nat→Nat→Int) (g:Nat→Nat) (h1:1≤m) (hm:m≤12) (hq:q<1000):cd (n+6) (.round 1 2) [dc m o false] (L1::jk l t k d (dz l t k d e h) v q f g::H)=some (.bool true,L1::jk l t k d (dz l t k d e h) (v+1) (q+1) (fun j=>if j<q then f j else Az m o) (fun j=>if j<q then g j else m)::H):=by
 have h1':exec (vD (n+5) 27 37 2 2) xZ (Bc l t k d e h m o) (aG::L1::jk l t k d (dz l t k d e h) v q f g::H)=some (.normal,ux m o,aG::L1::jk l t k d (dz l t k d e h) v q f g::H) :=
  py (Lw (n+5) l k t d e h m o (dz l t k d e h) v q f g L1 H) (aB _) (af _ _) (ag _ _) (Tr.bc rfl)
 have h2':∃ lv:aV,exec (vD (n+5) 27 37 2 2) x0 (ux m o) (aG::L1::jk l t k d ({ dz l t k d e h with state:=.busy }) v q f g::H)=some (.normal,[],lv::L1::jk l t k d ({ dz l t k d e h with state:=.busy }) (v+1) (q+1) (fun j=>if j<q then f j else Az m o) (fun j=>if j<q then g j else m)::H):=by
  refine ⟨⟨false,[(0,.dead),(0,.row (.G [.slcT none (.M [.arr .i64 (Az m o) m]) 1 m (cT m m)]))]⟩,py (Lt (n+5) l k t d m o (Az m o) { dz l t k d e h with state:=.busy } v q f g L1 H) (bj _ (n+5) (iG (aX _) (fun x hx=>by rw[← Tr.ab hx];exact Kh n m o _ h1 hm))) (af _ _) (ag _ _) ?_⟩
  generalize dz l t k d e h=L at *
  generalize Az m o=Y at *
  simp only[rn,gi,wO,wN,bK,gd,Nat.zero_add,Bool.cond_decide,oP,Nat.min_self,and_self]
  have ha:DG (fun j=>.slcT none (.M [.arr .i64 (f j) (g j)]) 1 (g j) false) .i64 1 false:=by rw[AO];exact fun j=>⟨_,_,_,rfl⟩
  repeat' first | (refine Tr.bn (fun hc=>?_) (fun hc=>?_)<;>(try simp (disch:=omega) only[nV,nW,ha] at hc)<;>try omega) | (refine Tr.cj ?_ ?_;· (try simp (disch:=omega) only[nV,nW,ha]);try omega) | (refine Tr.bg ?_ ?_;· first | exact trivial | rfl | exact ⟨rfl,rfl⟩ | exact ⟨rfl,rfl,rfl⟩ | (simp (disch:=omega) only[nV,nW,ha];done) | ((try simp (disch:=omega) only[nV,nW,ha]);omega)) | fail
  all_goals first
   | exact Tr.bc rfl
   | fail
 obtain ⟨lv,h2'⟩:=h2'
 exact sP (l:=dz l t k d e h) (l2:={ dz l t k d e h with state:=.busy }) rfl rfl rfl rfl h1' h2' rfl rfl
end
end Go.Eng
end
section
namespace Go.Eng
open Go.Proofs
noncomputable def EJ (l:Nat) (t:Nat→Int) (k:Nat) (d:Nat→Int):aV:=⟨false,[(0,.row (.G [dc l t false,dc k d false])),(0,.row (.G [.nils]))]⟩
noncomputable def HY (l:Nat) (t:Nat→Int) (k:Nat) (d:Nat→Int) (v m:Nat) (f:Nat→Nat→Int) (g:Nat→Nat):aV:=⟨false,[(0,.row (.G [dc l t false,dc k d false])),(0,.row (.G [.slc 0 3 v 0 1 m none])),(0,.dead),(v,.row (.F (fun j=>dc (g j) (f j) false) m))]⟩
noncomputable def xz (l:Nat) (t:Nat→Int) (k:Nat) (d e:Nat→Int) (h:Int):aq:=[(8,.ptr 0 1 0 0),(22,.fn (.func 85) [] [.ptrT (some 0) (.G [dK 0 l t k d e]) 0,.ptrT none (.I .i64 [h]) 0])]
theorem RH (n s l k:Nat) (t d g:Nat→Int) (h:Int) (H:aa):bz Try.prog (cd n) 100000 62 Try.f62 (KtL.kt 62) (il aQ n 0) aT aU [(dK s l t k d g,none),(.int .i64 h,none)] H =
 Tr.ok ((AV.fn (Fn.func 85) [] [AV.ptrT (some 0) (Row.G [AV.ptrT (some s) (Row.M [ah.one (AV.slcT none (Row.M [ah.arr .i64 t l]) 1 l false),ah.one (AV.slcT none (Row.M [ah.arr .i64 d k]) 1 k false),ah.arr .i64 g 30]) 0]) 0,AV.ptrT none (Row.I .i64 [h]) 0],none),H):=by kernel_rfl
theorem Rx (n l k:Nat) (t d e:Nat→Int) (h:Int) (v m:Nat) (f:Nat→Nat→Int) (g:Nat→Nat) (H:aa):bz Try.prog (cd n) 100000 27 Try.f27 (KtL.kt 27) (il (tX (tX aQ 61 [dV l t k d,.int .i64 h,.int .i64 0] (.tup [dK 0 l t k d e,.int .i64 0])) 62 [dK 0 l t k d e,.int .i64 h] (.fn (.func 85) [] [.ptrT (some 0) (.G [dK 0 l t k d e]) 0,.ptrT none (.I .i64 [h]) 0])) n 0) aT (J7 aU (fun _=>true) (xz l t k d e h) (EJ l t k d::H) (.ok (.normal,hints (xz l t k d e h),HY l t k d v m f g::H))) [(dV l t k d,none),(.int .i64 h,none)] H =
 (fun (Z0:Row)=>((fun (Z1:Row)=>((fun (Z2:aq)=>Tr.reqP ([AV.agg Z1,AV.int .i64 h,AV.int .i64 (Int.ofNat 0)]=[AV.agg Z1,AV.int .i64 h,AV.int .i64 (Int.ofNat 0)]) (Tr.ite (bx (dX (Int.ofNat 0) (Int.ofNat 0))) (Tr.ok ((AV.tup [AV.nils,AV.int .i64 (Int.ofNat 0)],none),H)) (Tr.reqP ([AV.ptrT (some 0) Z0 0,AV.int .i64 h]=[AV.ptrT (some 0) Z0 0,AV.int .i64 h]) (Tr.reqP (Z2=Z2∧{ lock:=false,bs:=[(0,ak.row Z1),(0,ak.row (Row.G [AV.nils]))] } :: H={ lock:=false,bs:=[(0,ak.row Z1),(0,ak.row (Row.G [AV.nils]))] } :: H) (Tr.req (cT v v) (Tr.req (kH 0 m 0 m) (Tr.ok ((AV.tup [AV.slcT none (Row.F (fun j=>AV.slcT none (Row.M [ah.arr .i64 (f (cM 0 j)) (g (cM 0 j))]) 1 (g (cM 0 j)) false) m) 1 m false,AV.int .i64 (Int.ofNat 0)],none),H)))))))) [(8,AV.ptr 0 1 0 0),(22,AV.fn (Fn.func 85) [] [AV.ptrT (some 0) (Row.G [AV.ptrT (some 0) Z0 0]) 0,AV.ptrT none (Row.I .i64 [h]) 0])])) (Row.G [AV.slcT none (Row.M [ah.arr .i64 t l]) 1 l false,AV.slcT none (Row.M [ah.arr .i64 d k]) 1 k false]))) (Row.M [ah.one (AV.slcT none (Row.M [ah.arr .i64 t l]) 1 l false),ah.one (AV.slcT none (Row.M [ah.arr .i64 d k]) 1 k false),ah.arr .i64 e 30]):=by kernel_rfl
theorem Od (n l k:Nat) (t d:Nat→Int) (h c:Int) (H:aa):bz Try.prog (cd n) 100000 27 Try.f27 (KtL.kt 27) (il (tX aQ 61 [dV l t k d,.int .i64 h,.int .i64 0] (.tup [.nilp,.int .i64 c])) n 0) aT (J7 aU (fun _=>true) [] [] .bad) [(dV l t k d,none),(.int .i64 h,none)] H =
 (fun (Z0:List AV)=>Tr.reqP (Z0=Z0) (Tr.ite (bx (dX c (Int.ofNat 0))) (Tr.ok ((AV.tup [AV.nils,AV.int .i64 c],none),H)) Tr.bad)) [AV.agg (Row.G [AV.slcT none (Row.M [ah.arr .i64 t l]) 1 l false,AV.slcT none (Row.M [ah.arr .i64 d k]) 1 k false]),AV.int .i64 h,AV.int .i64 (Int.ofNat 0)]:=by kernel_rfl
end Go.Eng
end
section
namespace Go.Eng
open Go.Proofs
theorem Ph (n s l k:Nat) (t d g:Nat→Int) (h:Int) (H:aa):cd (n+1) (.fn 62) [dK s l t k d g,.int .i64 h] H=some (.fn (.func 85) [] [.ptrT (some 0) (.G [dK s l t k d g]) 0,.ptrT none (.I .i64 [h]) 0],H):=by
 refine aR (n:=n) Try.func62 rfl rfl rfl (RH n s l k t d g h H) (aB _) (af _ _) (ag _ _) ?_
 exact wF
noncomputable def gP (l k:Nat) (t d:Nat→Int) (h:Int) (m j:Nat):Nat:=(vf l k t d h (min j m)).length
noncomputable def fP (l k:Nat) (t d:Nat→Int) (h:Int) (m j:Nat):Nat→Int:=Az (gP l k t d h m j) (aK (vf l k t d h (min j m)))
theorem Gp (l k:Nat) (t d:Nat→Int) (h:Int) (m:Nat):(fun j=>if j<m+1 then gP l k t d h m j else (vf l k t d h (m+1)).length)=gP l k t d h (m+1):=by
 funext j
 unfold gP
 by_cases c:j<m+1
 · rw[if_pos c,show min j m=j by omega,show min j (m+1)=j by omega]
 · rw[if_neg c,show min j (m+1)=m+1 by omega]
theorem Gj (l k:Nat) (t d:Nat→Int) (h:Int) (m:Nat):(fun j=>if j<m+1 then fP l k t d h m j else Az (vf l k t d h (m+1)).length (aK (vf l k t d h (m+1))))=fP l k t d h (m+1):=by
 funext j
 unfold fP gP
 by_cases c:j<m+1
 · rw[if_pos c,show min j m=j by omega,show min j (m+1)=j by omega]
 · rw[if_neg c,show min j (m+1)=m+1 by omega]
section
variable (n l k:Nat) (t d:Nat→Int) (h:Int) (H:aa)
theorem Fx (hs:Sh l t k d) (hc:bV l t d h=true) (hh:1≤h∧h≤10) (m:Nat) (hm:m<fR l t d h):1≤(vf l k t d h m).length∧(vf l k t d h m).length≤h.toNat:=by
 have e:h=(h.toNat:Int):=by omega
 obtain ⟨M,a,b,c,f⟩:=FD (H:=h.toNat) (z:=zP l t k d (fR l t d h:Nat)) (f0:=bD (cu t l)) hs.l30 hs.tl (by omega) (fun i hi=>by
  rw[oi hs i hi]
  have:=lB (fun x=>decide (t x=(i:Int))) l
  have:=hs.l30
  omega)
 have hM:=vn hs hc e a b c
 obtain ⟨P,p1,p2⟩:=f m (by omega)
 obtain ⟨q,a1,a2,a3,a4,a5,a6,_⟩:=FJ (z:=zP l t k d (fR l t d h:Nat)) hs.l30 hs.tl (show 0<h.toNat by omega) (b m (by omega)) p2
 unfold vf JI
 rw[a5,a6]
 omega
noncomputable def I0 (l k:Nat) (t d:Nat→Int) (h:Int) (H:aa):Nat→aa
 | 0=>vZ l t k d (dz l t k d (cu t l) h)::H
 | m+1=>jk l t k d (dz l t k d (cu t l) h) m (m+1) (fP l k t d h m) (gP l k t d h m)::H
theorem RY (hs:Sh l t k d) (hc:bV l t d h=true) (hh:1≤h∧h≤10) (T:Nat) (hT:fR l t d h=T+1):exec (bA (n+7) 27 37) (.rangeFunc (.tmp 22) #[23] xZ x0) (xz l t k d (cu t l) h) (EJ l t k d::H)=some (.normal,xz l t k d (cu t l) h,HY l t k d T (T+1) (fP l k t d h T) (gP l k t d h T)::H):=by
 have hy:∀ m,m<fR l t d h→∀ L:aV,L.lock=false→cd (n+1+5) (.round 1 2) [dc (vf l k t d h m).length (aK (vf l k t d h m)) false] (L::I0 l k t d h H m)=some (.bool true,L::I0 l k t d h H (m+1)):=fun m hm L _=>by
  obtain ⟨r1,r2⟩:=Fx l k t d h hs hc hh m hm
  have htr:=(mI hs hc).2.2
  cases m with
  | zero =>
    have:=Ln n l k t d (cu t l) h (vf l k t d h 0).length (aK (vf l k t d h 0)) L H r1 (by omega)
    have e1:gP l k t d h 0=fun _=>(vf l k t d h 0).length:=by funext j;unfold gP;rw[Nat.min_zero]
    have e2:fP l k t d h 0=fun _=>Az (vf l k t d h 0).length (aK (vf l k t d h 0)):=by funext j;unfold fP gP;rw[Nat.min_zero]
    show _=some (_,L::jk l t k d (dz l t k d (cu t l) h) 0 1 (fP l k t d h 0) (gP l k t d h 0)::H)
    rw[e1,e2]
    exact this
  | succ m =>
    have:=Lo n l k t d (cu t l) h (vf l k t d h (m+1)).length (aK (vf l k t d h (m+1))) L H m (m+1) (fP l k t d h m) (gP l k t d h m) r1 (by omega) (by omega)
    rw[Gp,Gj] at this
    exact this
 have hcall:=Mw (n+1) 0 l k t d h (I0 l k t d h H) hs hc hh hy
 rw[hT] at hcall
 exact yN (cx:=bA (n+7) 27 37) (l:=dz l t k d (cu t l) h) (f:=.tmp 22) (ps:=#[23]) (fr:=xz l t k d (cu t l) h) (H:=EJ l t k d::H) (g:=85) (a:=[]) (b:=[.ptrT (some 0) (.G [dK 0 l t k d (cu t l)]) 0,.ptrT none (.I .i64 [h]) 0]) rfl rfl rfl hcall rfl rfl rfl
theorem Rq:dO (bR Try.f27)=[(.tmp 22,#[23],xZ,x0)]:=by kernel_rfl
noncomputable def L8 (l k:Nat) (t d:Nat→Int) (h:Int):AV:=if eU l k t d h=0 then .tup [Rs (fR l t d h) (fP l k t d h (fR l t d h-1)) (gP l k t d h (fR l t d h-1)),.int .i64 0] else .tup [.nils,.int .i64 (eU l k t d h)]
theorem Pb:cd (n+12) (.fn 27) [dV l t k d,.int .i64 h] H=some (L8 l k t d h,H):=by
 unfold L8
 by_cases e:eU l k t d h=0
 · rw[if_pos e]
   obtain ⟨e1,e2⟩:=BM e
   obtain ⟨hs,h1,h2⟩:=zI e1
   obtain ⟨_,b,_⟩:=mI hs e2
   obtain ⟨T,hT⟩:∃ T,fR l t d h=T+1:=⟨fR l t d h-1,by omega⟩
   have hx:=RY (n+4) l k t d h H hs e2 ⟨h1,h2⟩ T hT
   rw[hT,Nat.add_sub_cancel]
   refine aR (n:=n+11) Try.func27 rfl rfl rfl (Rx (n+11) l k t d (cu t l) h T (T+1) (fP l k t d h T) (gP l k t d h T) H) (bj _ (n+11) (cL (cL (aX _) (fun H=>Mq n l k t d H h e)) (fun H=>Ph (n+10) 0 l k t d (cu t l) h H))) (af _ _) (wG (ag _ _) (fun f ps a b _ hm x hx2=>by
    rw[Rq] at hm
    simp only[List.mem_cons,Prod.mk.injEq,List.not_mem_nil,or_false] at hm
    obtain ⟨rfl,rfl,rfl,rfl⟩:=hm
    rw[← Tr.ab hx2];exact hx)) ?_
   show Tr.all _ _
   simp only[bK,Nat.zero_add]
   generalize fP l k t d h T=A at *
   generalize gP l k t d h T=B at *
   exact wF
 · rw[if_neg e]
   refine aR (n:=n+11) Try.func27 rfl rfl rfl (Od (n+11) l k t d h (eU l k t d h) H) (bj _ (n+11) (cL (aX _) (fun H=>Mp n l k t d H h e))) (af _ _) (wG (ag _ _) (fun f ps a b _ hm x hx2=>(Tr.ae hx2).elim)) ?_
   generalize eU l k t d h=N at *
   exact wF
end
end Go.Eng
end
section
namespace Go.Eng
open Go.Proofs
section
variable (n l k:Nat) (t d z:Nat→Int) (m:Nat) (f:Nat→Nat→Int) (g:Nat→Nat) (H:aa)
end
end Go.Eng
end
section
namespace Go.Eng
open Go.Proofs
section
variable (n l k:Nat) (t d:Nat→Int) (m:Nat) (f:Nat→Nat→Int) (g:Nat→Nat) (H:aa)
end
end Go.Eng
end
section
namespace Go.Eng
open Go.Proofs
end Go.Eng
end
section
namespace Go.Eng
open Go.Proofs
section
variable (n l k:Nat) (t d z:Nat→Int) (m:Nat) (f:Nat→Nat→Int) (g:Nat→Nat) (H:aa)
end
end Go.Eng
end
section
namespace Go.Eng
open Go.Proofs
theorem vL (p:Nat→Bool) (j:Nat):dC p (j+1)=(dC p j || p j):=by
 rw[Bool.eq_iff_iff,Bool.or_eq_true,dY,dY]
 constructor
 · rintro ⟨i,h1,h2⟩
   by_cases e:i=j
   · subst e;exact .inr h2
   · exact .inl ⟨i,by omega,h2⟩
 · rintro (⟨i,h1,h2⟩ | h)
   · exact ⟨i,by omega,h2⟩
   · exact ⟨j,by omega,h⟩
section
variable (n l k:Nat) (t d z:Nat→Int) (h:Int) (m:Nat) (f:Nat→Nat→Int) (g:Nat→Nat) (H:aa)
end
end Go.Eng
end
section
namespace Go.Eng
open Go.Proofs
noncomputable def iY (l:Nat) (t:Nat→Int) (k:Nat) (d:Nat→Int):aV:=⟨false,[Ml l t k d]⟩
section
variable (n l k:Nat) (t d z:Nat→Int) (h:Int) (m:Nat) (f:Nat→Nat→Int) (g:Nat→Nat) (H:aa)
end
end Go.Eng
end
section
namespace Go.Eng
open Go.Proofs
section
variable (n l k:Nat) (t d:Nat→Int) (m:Nat) (f:Nat→Nat→Int) (g:Nat→Nat) (H:aa)
end
end Go.Eng
end
section
namespace Go.Eng
section
variable {l k:Nat} {t d:Nat→Int} {h:Int}
noncomputable def rN (l k:Nat) (t d:Nat→Int) (h:Int) (m:Nat):List Nat:=qK l t (zP l t k d (fR l t d h:Nat)) h.toNat (bD (cu t l)) m
noncomputable def dP (l k:Nat) (t d:Nat→Int) (h:Int) (m:Nat):Nat→Bool:=dS l t (zP l t k d (fR l t d h:Nat)) h.toNat (bD (cu t l)) m
theorem JH (m:Nat):vf l k t d h m=(rN l k t d h m).map fun (i:Nat)=>(i:Int):=rfl
theorem zS (m i:Nat):dP l k t d h (m+1) i=(dP l k t d h m i || decide (i ∈ rN l k t d h m)):=rfl
theorem yK (hs:Sh l t k d) (m:Nat):(rN l k t d h m).Nodup∧∀ i ∈ rN l k t d h m,i<l∧dP l k t d h m i=false:=by
 obtain ⟨r,h1,h2,h3,h4⟩:=lX (l:=l) (z:=zP l t k d (fR l t d h:Nat)) (w:=(ev l t (zP l t k d (fR l t d h:Nat)) h.toNat (bD (cu t l)) m).2) h.toNat
 obtain ⟨_,a2,a3⟩:=yE (Ay (z:=zP l t k d (fR l t d h:Nat)) (H:=h.toNat) hs.l30 hs.tl (oi hs) m) r h2
 unfold rN qK
 rw[h3]
 exact ⟨a2,a3⟩
end
end Go.Eng
end
section
namespace Go.Eng
section
variable {l k:Nat} {t d:Nat→Int} {h:Int}
theorem HI:∀ {n i:Nat},dP l k t d h n i=true→∃ m,m<n∧i ∈ rN l k t d h m
 | 0,i,hd=>by
   have:(fun _:Nat=>false) i=true:=hd
   cases this
 | n + 1,i,hd=>by
   rw[zS,Bool.or_eq_true,decide_eq_true_eq] at hd
   rcases hd with hd | hd
   · obtain ⟨m,a,b⟩:=HI hd
     exact ⟨m,by omega,b⟩
   · exact ⟨n,by omega,hd⟩
theorem Bp {n m i:Nat} (hm:m<n) (hi:i ∈ rN l k t d h m):dP l k t d h n i=true:=by
 have:dP l k t d h (m+1) i=true:=by rw[zS,decide_eq_true hi,Bool.or_true]
 exact gH (show m+1≤n by omega) this
theorem JE (hs:Sh l t k d) {m m' i:Nat} (h1:i ∈ rN l k t d h m) (h2:i ∈ rN l k t d h m'):m=m':=by
 have key:∀ {a b:Nat},a<b→i ∈ rN l k t d h a→i ∈ rN l k t d h b→False:=fun {a b} hab ha hb=>by
  have h1:=Bp hab ha
  have h2:=((yK hs b).2 i hb).2
  rw[h1] at h2;cases h2
 rcases Nat.lt_trichotomy m m' with c | c | c
 · exact (key c h1 h2).elim
 · exact c
 · exact (key c h2 h1).elim
theorem JC (hs:Sh l t k d) {y x my mx:Nat} (hy:y ∈ rN l k t d h my) (hx:x ∈ rN l k t d h mx) (hyx:t y=(x:Int)):my<mx:=by
 have hyl:=((yK hs my).2 y hy)
 have hxl:=((yK hs mx).2 x hx)
 have h1:dP l k t d h (mx+1) x=true:=Bp (by omega) hx
 have h2:=(Nw hs.l30 hs.tl (oi hs) hyl.1 hxl.1 hyx (mx+1) h1).2
 have h2:dP l k t d h mx y=true:=h2
 apply Classical.byContradiction
 intro hc
 have h3:dP l k t d h my y=true:=gH (show mx≤my by omega) h2
 rw[hyl.2] at h3;cases h3
theorem Am (hs:Sh l t k d) (hc:bV l t d h=true) (hh:1≤h∧h≤10) {i:Nat} (hi:i<l):∃ m,m<fR l t d h∧((m:Nat):Int)+1≤d i∧i ∈ rN l k t d h m:=by
 have e:h=(h.toNat:Int):=by omega
 have:=Bq (H:=h.toNat) hs hc e i hi
 obtain ⟨m,a,b⟩:=HI (k:=k) (h:=h) this
 have hz:=Hy hs i hi (fR l t d h)
 have:=FL hs hc i hi
 exact ⟨m,by omega,by omega,b⟩
theorem JD (hs:Sh l t k d) (hc:bV l t d h=true) (hh:1≤h∧h≤10) {m:Nat} (hm:m<fR l t d h):1≤(rN l k t d h m).length∧((rN l k t d h m).length:Int)≤h:=by
 have:=Fx l k t d h hs hc hh m hm
 rw[JH,List.length_map] at this
 omega
end
end Go.Eng
end
section
namespace Go.Eng
section
variable {l m:Nat} {f:Nat→Nat→Int} {g:Nat→Nat}
theorem Fu {t z:Nat→Int} (hf:Fw l t) (hr:∀ j,j<l→0≤t j→z j<z (t j).toNat) {i:Nat} (hi:i<l):∀ q,q<pc l t i→z i+q≤z (bO t q (i:Int)).toNat
 | 0,_=>by
   show z i+((0:Nat):Int)≤z ((i:Int)).toNat
   rw[Int.toNat_natCast];omega
 | q+1,hq=>by
   have ih:=Fu hf hr hi q (by omega)
   have h1:=(np hf hi q (by omega)).1
   have h2:=(np hf hi (q+1) hq).1
   have h3:=ia hf.tl (x:=(i:Int)) (by omega) q
   rw[Ca h1] at h2 ⊢
   have:=hr (bO t q (i:Int)).toNat (by omega) h2
   omega
end
section
variable {l k:Nat} {t d:Nat→Int} {h:Int} {m:Nat} {f:Nat→Nat→Int} {g:Nat→Nat}
end
end Go.Eng
end
section
namespace Go.Eng
open Go.Proofs
section
variable {m m':Nat} {f f':Nat→Nat→Int} {g g':Nat→Nat}
end
section
variable (n l k:Nat) (t d:Nat→Int) (h:Int) (m:Nat) (f:Nat→Nat→Int) (g:Nat→Nat) (H:aa)
end
end Go.Eng
end
section
namespace Go.Eng
open Go.Proofs
section
variable (n l k:Nat) (t d:Nat→Int) (h w:Int) (m:Nat) (f:Nat→Nat→Int) (g:Nat→Nat) (H:aa)
end
end Go.Eng
end
section
namespace Go.Eng
open Go.Proofs
section
variable (n l k:Nat) (t d z:Nat→Int) (H:aa)
end
end Go.Eng
end
section
namespace Go.Eng
open Go.Proofs
section
variable (n l k:Nat) (t d:Nat→Int) (H:aa)
end
end Go.Eng
end
section
namespace Go.Eng
open Go.Proofs
section
variable (l:Nat) (t:Nat→Int) (k:Nat) (hv:Int) (z:Nat→Int)
end
section
variable {l k:Nat} {t d:Nat→Int} {hv:Int} {T:Nat}
end
section
variable (n l k:Nat) (t d:Nat→Int) (H:aa)
end
end Go.Eng
end
section
namespace Go.Eng
open Go.Proofs
end Go.Eng
end
section
namespace Go.Eng
section
variable {l k m:Nat} {t d:Nat→Int} {h:Int} {f:Nat→Nat→Int} {g:Nat→Nat}
end
section
variable {l k:Nat} {t d:Nat→Int} {h:Int}
end
end Go.Eng
end
section
namespace Go.Eng
open Go.Proofs
section
variable (l:Nat) (t:Nat→Int) (k:Nat) (hv:Int) (z:Nat→Int)
end
section
variable (n l k:Nat) (t d z:Nat→Int) (H:aa)
end
end Go.Eng
end
section
namespace Go.Eng
open Go.Proofs
section
variable (n l k:Nat) (t d:Nat→Int) (H:aa)
end
end Go.Eng
end
