/- Lay: the sort of at most twelve numbers in a row of the caller (turned from drop's Ki). -/
import Derived.Test.YtoomemfhcbajoaaV5Lp9x7
set_option linter.unusedVariables false
set_option linter.unusedSimpArgs false
set_option maxRecDepth 100000
section
namespace Go.Eng
open Go.Proofs
def Pr (x l:Int):List AV→Option (Prop×AV)
 | [.int .u64 y]=>some (y=x,.int .i64 l)
 | _=>none
noncomputable def ft (p:Int) (mk z:Nat→Int) (s:AV) (v m:Nat):aU:=⟨false,[(v,.row (.M [.arr .i64 z m]))]⟩
noncomputable def vY (v m:Nat) (i:Int):ar:=[(0,.slc 3 0 v 0 1 m (some m)),(1,.int .i64 0),(2,.int .i64 (Int.ofNat m)),(6,.int .i64 i)]
noncomputable def oF (v m:Nat) (i j:Int):ar:=[(0,.slc 3 0 v 0 1 m (some m)),(1,.int .i64 0),(2,.int .i64 (Int.ofNat m)),(6,.int .i64 i),(7,.int .i64 j)]
theorem Sq (n:Nat) (H:aa) (p:Int) (mk z z2:Nat→Int) (s:AV) (v m:Nat) (lim:Int):bn Try.prog (cd (n+4)) 100000 63 Try.f63 (KtL.kt 63) (il (xC (z9 aK 91 [.slc 1 0 v 0 1 m (some m),.int .i64 0,.int .i64 (Int.ofNat m),.int .i64 lim] (aD::ft p mk z s v m::H) (.ok (.tup [],aD::ft p mk z2 s v m::H))) 92 (Pr (Int.ofNat m) lim)) (n+4) 0) aO aP [(.slc 0 0 v 0 1 m (some m),none)] (ft p mk z s v m::H) =
 (fun (Z0:List AV)=>Tr.reqP (tE IntKind.u64 (Int.ofNat m)=Int.ofNat m) (Tr.reqP (Z0=Z0∧aD::{ lock:=false,bs:=[(v,ai.row (Row.M [ah.arr .i64 z m]))] } :: H=aD::{ lock:=false,bs:=[(v,ai.row (Row.M [ah.arr .i64 z m]))] } :: H) (Tr.ok ((AV.tup [],none),{ lock:=false,bs:=[(v,ai.row (Row.M [ah.arr .i64 z2 m]))] } :: H)))) [AV.slc 1 0 v 0 1 m (some m),AV.int .i64 (Int.ofNat 0),AV.int .i64 (Int.ofNat m),AV.int .i64 lim]:=by kernel_rfl
theorem SD (n:Nat) (H:aa) (p:Int) (mk z z2:Nat→Int) (s:AV) (v m:Nat) (lim:Int):bn Try.prog (cd (n+3)) 100000 91 Try.f91 (KtL.kt 91) (il (z9 aK 96 [.slc 2 0 v 0 1 m (some m),.int .i64 0,.int .i64 (Int.ofNat m)] (aD::aD::ft p mk z s v m::H) (.ok (.tup [],aD::aD::ft p mk z2 s v m::H))) (n+3) 0) aO aP [(.slc 1 0 v 0 1 m (some m),none),(.int .i64 0,none),(.int .i64 (Int.ofNat m),none),(.int .i64 lim,none)] (aD::ft p mk z s v m::H) =
 Tr.ite (lH (bP .i64 (Int.ofNat m) (Int.ofNat 0)) (Int.ofNat 12)) (Tr.reqP ([AV.slc 2 0 v 0 1 m (some m),AV.int .i64 (Int.ofNat 0),AV.int .i64 (Int.ofNat m)]=[AV.slc 2 0 v 0 1 m (some m),AV.int .i64 (Int.ofNat 0),AV.int .i64 (Int.ofNat m)]∧aD::aD::{ lock:=false,bs:=[(v,ai.row (Row.M [ah.arr .i64 z m]))] } :: H=aD::aD::{ lock:=false,bs:=[(v,ai.row (Row.M [ah.arr .i64 z m]))] } :: H) (Tr.ok ((AV.tup [],none),aD::{ lock:=false,bs:=[(v,ai.row (Row.M [ah.arr .i64 z2 m]))] } :: H))) (Tr.ite (cQ lim (Int.ofNat 0)) Tr.bad Tr.bad):=by kernel_rfl
theorem SF (n:Nat) (H:aa) (p:Int) (mk z z2:Nat→Int) (s:AV) (v m:Nat) (i2:Int):bn Try.prog (cd (n+2)) 100000 96 Try.f96 (KtL.kt 96) (il aK n 2) (cX aO 0 (vY v m (br .i64 0 1)) (aD::aD::aD::ft p mk z s v m::H) (.ok (.normal,hints (vY v m i2++[(12,.bool false)]),aD::aD::aD::ft p mk z2 s v m::H))) aP [(.slc 2 0 v 0 1 m (some m),none),(.int .i64 0,none),(.int .i64 (Int.ofNat m),none)] (aD::aD::ft p mk z s v m::H) =
 (fun (Z0:ar)=>Tr.reqP (Z0=Z0∧aD::aD::aD::{ lock:=false,bs:=[(v,ai.row (Row.M [ah.arr .i64 z m]))] } :: H=aD::aD::aD::{ lock:=false,bs:=[(v,ai.row (Row.M [ah.arr .i64 z m]))] } :: H) (Tr.ok ((AV.tup [],none),aD::aD::{ lock:=false,bs:=[(v,ai.row (Row.M [ah.arr .i64 z2 m]))] } :: H))) [(0,AV.slc 3 0 v 0 1 m (some m)),(1,AV.int .i64 (Int.ofNat 0)),(2,AV.int .i64 (Int.ofNat m)),(6,AV.int .i64 (br .i64 (Int.ofNat 0) (Int.ofNat 1)))]:=by kernel_rfl
theorem OB (n:Nat) (H:aa) (p:Int) (mk z z2:Nat→Int) (s:AV) (v m:Nat) (i j2:Int):aG (bx (n+2) 96 49) (il aK n 2) (cX aO 2 (oF v m i i) (aD::aD::aD::ft p mk z s v m::H) (.ok (.normal,hints (oF v m i j2++[(30,.bool false)]),aD::aD::aD::ft p mk z2 s v m::H))) aP (part Try.f96 [1,0,0]) (hints (vY v m i)) (aD::aD::aD::ft p mk z s v m::H) =
 (fun (Z0:ar)=>((fun (Z1:aU)=>Tr.ite (cq i (Int.ofNat m)) (Tr.reqP (Z0=Z0∧aD::aD::aD::Z1::H=aD::aD::aD::Z1::H) (Tr.ok (Ex.normal,[(0,AV.slc 3 0 v 0 1 m (some m),none),(1,AV.int .i64 (Int.ofNat 0),none),(2,AV.int .i64 (Int.ofNat m),none),(6,AV.int .i64 (br .i64 i (Int.ofNat 1)),none)],aD::aD::aD::{ lock:=false,bs:=[(v,ai.row (Row.M [ah.arr .i64 z2 m]))] } :: H))) (Tr.ok (Ex.exit 0,[(0,AV.slc 3 0 v 0 1 m (some m),none),(1,AV.int .i64 (Int.ofNat 0),none),(2,AV.int .i64 (Int.ofNat m),none),(6,AV.int .i64 i,none),(12,AV.bool false,some 1)],aD::aD::aD::Z1::H))) { lock:=false,bs:=[(v,ai.row (Row.M [ah.arr .i64 z m]))] })) [(0,AV.slc 3 0 v 0 1 m (some m)),(1,AV.int .i64 (Int.ofNat 0)),(2,AV.int .i64 (Int.ofNat m)),(6,AV.int .i64 i),(7,AV.int .i64 i)]:=by kernel_rfl
theorem OA (n:Nat) (H:aa) (p:Int) (mk z:Nat→Int) (s:AV) (v m:Nat) (i:Int):aG (bx (n+2) 96 49) (il aK n 2) (nh aO 2) aP (part Try.f96 [1,0,0]) (hints (vY v m i)) (aD::aD::aD::ft p mk z s v m::H) =
 Tr.ite (cq i (Int.ofNat m)) Tr.bad (Tr.ok (Ex.exit 0,[(0,AV.slc 3 0 v 0 1 m (some m),none),(1,AV.int .i64 (Int.ofNat 0),none),(2,AV.int .i64 (Int.ofNat m),none),(6,AV.int .i64 i,none),(12,AV.bool false,some 1)],aD::aD::aD::{ lock:=false,bs:=[(v,ai.row (Row.M [ah.arr .i64 z m]))] } :: H)):=by kernel_rfl
theorem JV (n:Nat) (H:aa) (p:Int) (mk z:Nat→Int) (s:AV) (v m:Nat) (i j:Int):aG (bx (n+2) 96 49) (il aK n 2) aO aP (part Try.f96 [1,0,0,1,0,0,1,0,0]) (hints (oF v m i j)) (aD::aD::aD::ft p mk z s v m::H) =
 (fun (Z0:aE)=>((fun (Z1:aE)=>((fun (Z2:aU)=>((fun (Z3:aU)=>Tr.ite (cq (Int.ofNat 0) j) (Tr.req (dv j m) (Tr.req (bM v v) (Tr.req (c9 (ay 0 j 1) m) (Tr.req (dv (bP .i64 j (Int.ofNat 1)) m) (Tr.req (bM v v) (Tr.req (c9 (ay 0 (bP .i64 j (Int.ofNat 1)) 1) m) (Tr.ite (ba (cQ (z (ay 0 j 1)) (z (ay 0 j 1)))) (Tr.ite (ba (ba (cQ (z (ay 0 (bP .i64 j (Int.ofNat 1)) 1)) (z (ay 0 (bP .i64 j (Int.ofNat 1)) 1))))) (Tr.req (dv (bP .i64 j (Int.ofNat 1)) m) (Tr.req (bM v v) (Tr.req (c9 (ay 0 (bP .i64 j (Int.ofNat 1)) 1) m) (Tr.req (dv j m) (Tr.req (bM v v) (Tr.req (c9 (ay 0 j 1) m) (Tr.req (dv j m) (Tr.req (bM v v) (Tr.req (c9 (ay 0 j 1) m) (Tr.req (cM (bY v v) (bY v (Nat.succ v))) (Tr.req (dv (bP .i64 j (Int.ofNat 1)) m) (Tr.req (bM v v) (Tr.req (c9 (ay 0 (bP .i64 j (Int.ofNat 1)) 1) m) (Tr.req (cM (bY v v) (bY v (Nat.succ v))) (Tr.ok (Ex.normal,Z1,aD::aD::aD::Z2::H)))))))))))))))) (Tr.ite (cq (z (ay 0 j 1)) (z (ay 0 (bP .i64 j (Int.ofNat 1)) 1))) (Tr.req (dv (bP .i64 j (Int.ofNat 1)) m) (Tr.req (bM v v) (Tr.req (c9 (ay 0 (bP .i64 j (Int.ofNat 1)) 1) m) (Tr.req (dv j m) (Tr.req (bM v v) (Tr.req (c9 (ay 0 j 1) m) (Tr.req (dv j m) (Tr.req (bM v v) (Tr.req (c9 (ay 0 j 1) m) (Tr.req (cM (bY v v) (bY v (Nat.succ v))) (Tr.req (dv (bP .i64 j (Int.ofNat 1)) m) (Tr.req (bM v v) (Tr.req (c9 (ay 0 (bP .i64 j (Int.ofNat 1)) 1) m) (Tr.req (cM (bY v v) (bY v (Nat.succ v))) (Tr.ok (Ex.normal,Z1,aD::aD::aD::Z2::H)))))))))))))))) (Tr.ok (Ex.exit 2,Z0,aD::aD::aD::Z3::H)))) (Tr.ite (cq (z (ay 0 j 1)) (z (ay 0 (bP .i64 j (Int.ofNat 1)) 1))) (Tr.req (dv (bP .i64 j (Int.ofNat 1)) m) (Tr.req (bM v v) (Tr.req (c9 (ay 0 (bP .i64 j (Int.ofNat 1)) 1) m) (Tr.req (dv j m) (Tr.req (bM v v) (Tr.req (c9 (ay 0 j 1) m) (Tr.req (dv j m) (Tr.req (bM v v) (Tr.req (c9 (ay 0 j 1) m) (Tr.req (cM (bY v v) (bY v (Nat.succ v))) (Tr.req (dv (bP .i64 j (Int.ofNat 1)) m) (Tr.req (bM v v) (Tr.req (c9 (ay 0 (bP .i64 j (Int.ofNat 1)) 1) m) (Tr.req (cM (bY v v) (bY v (Nat.succ v))) (Tr.ok (Ex.normal,Z1,aD::aD::aD::Z2::H)))))))))))))))) (Tr.ok (Ex.exit 2,Z0,aD::aD::aD::Z3::H)))))))))) (Tr.ok (Ex.exit 2,Z0,aD::aD::aD::Z3::H))) { lock:=false,bs:=[(v,ai.row (Row.M [ah.arr .i64 z m]))] })) { lock:=false,bs:=[(v,ai.row (Row.M [ah.arr .i64 (gm (gm z (ay 0 j 1) (z (ay 0 (bP .i64 j (Int.ofNat 1)) 1))) (ay 0 (bP .i64 j (Int.ofNat 1)) 1) (z (ay 0 j 1))) m]))] })) [(0,AV.slc 3 0 v 0 1 m (some m),none),(1,AV.int .i64 (Int.ofNat 0),none),(2,AV.int .i64 (Int.ofNat m),none),(6,AV.int .i64 i,none),(7,AV.int .i64 (bP .i64 j (Int.ofNat 1)),none)])) [(0,AV.slc 3 0 v 0 1 m (some m),none),(1,AV.int .i64 (Int.ofNat 0),none),(2,AV.int .i64 (Int.ofNat m),none),(6,AV.int .i64 i,none),(7,AV.int .i64 j,none),(30,AV.bool false,some 1)]:=by kernel_rfl
noncomputable def Ke (z:Nat→Int) (j:Nat):Nat→Int:=gm (gm z j (z (j-1))) (j-1) (z j)
noncomputable def yc (z:Nat→Int):Nat→Nat→Int
 | 0=>z
 | j+1=>if z (j+1)<z j then yc (Ke z (j+1)) j else z
noncomputable def mY (z:Nat→Int):Nat→Nat→Int
 | 0=>z
 | k+1=>yc (mY z k) (k+1)
section
variable (n:Nat) (H:aa) (p:Int) (mk z:Nat→Int) (s:AV) (v m:Nat)
theorem PI:∀ b,(0,b) ∈ aN (bO Try.f96)→b=.loop (part Try.f96 [1,0,0]):=gq (by kernel_rfl)
theorem Mz:∀ b,(2,b) ∈ aN (part Try.f96 [1,0,0])→b=.loop (part Try.f96 [1,0,0,1,0,0,1,0,0]):=gq (by kernel_rfl)
theorem NM (i:Nat) (hi:i<m) (hm:m≤100):∃ y:ar×aa,exec (bx (n+2) 96 49) (.block 2 (.loop (part Try.f96 [1,0,0,1,0,0,1,0,0]))) (oF v m i i) (aD::aD::aD::ft p mk z s v m::H)=some (.normal,y)∧∃ j2:Int,y=(oF v m i j2++[(30,.bool false)],aD::aD::aD::ft p mk (yc z i) s v m::H):=by
 refine EI (n:=n+2) (f:=96) (nt:=49) (c:=part Try.f96 [1,0,0,1,0,0,1,0,0]) 2 (fun k fr G=>∃ (z':Nat→Int) (j:Nat),j+k=i∧fr=oF v m i j∧G=aD::aD::aD::ft p mk z' s v m::H∧yc z' j=yc z i) _ (i+1) (by omega) ⟨z,i,by omega,rfl,rfl,rfl⟩ (fun k fr G hI=>?_)
 obtain ⟨z',j,h1,rfl,rfl,h2⟩:=hI
 rw[← h2]
 cases j with
 | zero =>
   obtain ⟨x,hx1,hx2⟩:=aF (Q:=fun x=>x=(.exit 2,oF v m i ((0:Nat):Int)++[(30,.bool false)],aD::aD::aD::ft p mk z' s v m::H)) (JV n H p mk z' s v m (i:Int) ((0:Nat):Int)) (ly n 2) (af _ _) (ag _ _) (by
    exact wF)
   exact ⟨x,hx1,.inr (by rw[hx2];exact ⟨rfl,_,rfl⟩)⟩
 | succ j =>
   have es:bP .i64 ((j+1:Nat):Int) (Int.ofNat 1)=(j:Int):=by rw[mN,show Int.ofNat 1=1 from rfl,po (by omega) (by omega)];omega
   have ed:ay 0 ((j+1:Nat):Int) 1=j+1:=by rw[kO];omega
   have ee:ay 0 (j:Int) 1=j:=by rw[kO];omega
   have eu:gm (gm z' (j+1) (z' j)) j (z' (j+1))=Ke z' (j+1):=rfl
   by_cases hlt:z' (j+1)<z' j
   · obtain ⟨x,hx1,hx2⟩:=aF (Q:=fun x=>x.1=.normal∧tidy 0 x.2.1 x.2.2=(oF v m i (j:Int),aD::aD::aD::ft p mk (Ke z' (j+1)) s v m::H)) (JV n H p mk z' s v m (i:Int) ((j+1:Nat):Int)) (ly n 2) (af _ _) (ag _ _) (by
      rw[es,ed,ee,eu]
      exact wF)
     refine ⟨x,hx1,.inl ⟨hx2.1,by omega,Ke z' (j+1),j,by omega,?_,?_,?_⟩⟩
     · have:=congrArg Prod.fst hx2.2
       exact this
     · have:=congrArg Prod.snd hx2.2
       exact this
     · show _=(if z' (j+1)<z' j then yc (Ke z' (j+1)) j else z')
       rw[if_pos hlt]
   · obtain ⟨x,hx1,hx2⟩:=aF (Q:=fun x=>x=(.exit 2,oF v m i ((j+1:Nat):Int)++[(30,.bool false)],aD::aD::aD::ft p mk z' s v m::H)) (JV n H p mk z' s v m (i:Int) ((j+1:Nat):Int)) (ly n 2) (af _ _) (ag _ _) (by
      rw[es,ed,ee,eu]
      exact wF)
     refine ⟨x,hx1,.inr ?_⟩
     rw[hx2]
     refine ⟨rfl,((j+1:Nat):Int),?_⟩
     rw[show yc z' (j+1)=(if z' (j+1)<z' j then yc (Ke z' (j+1)) j else z') from rfl,if_neg hlt]
theorem RP (h1:1≤m) (hm:m≤100):exec (bx (n+2) 96 49) (.block 0 (.loop (part Try.f96 [1,0,0]))) (vY v m ((1:Nat):Int)) (aD::aD::aD::ft p mk z s v m::H)=some (.normal,vY v m ((m:Nat):Int)++[(12,.bool false)],aD::aD::aD::ft p mk (mY z (m-1)) s v m::H):=by
 have:=jG (n:=n+2) (f:=96) (nt:=49) (c:=part Try.f96 [1,0,0]) 0 (fun k=>vY v m ((k+1:Nat):Int)) (fun k=>aD::aD::aD::ft p mk (mY z k) s v m::H) (m-1) (vY v m ((m:Nat):Int)++[(12,.bool false)],aD::aD::aD::ft p mk (mY z (m-1)) s v m::H) (by omega) (fun k hk=>?_) ?_
 · exact this
 · obtain ⟨y,hy,j2,rfl⟩:=NM n H p mk (mY z k) s v m (k+1) (by omega) hm
   have ej:br .i64 ((k+1:Nat):Int) (Int.ofNat 1)=((k+1+1:Nat):Int):=by rw[jj,show Int.ofNat 1=1 from rfl];exact po (by omega) (by omega)
   refine aF (OB n H p mk (mY z k) (mY z (k+1)) s v m ((k+1:Nat):Int) j2) (ly n 2) (aW (af _ _) Mz (fun x hx=>by rw[← Tr.ab hx];simp only[nj.st,g8];exact hy)) (ag _ _) ?_
   rw[ej]
   exact wF
 · have e:((m-1+1:Nat):Int)=(m:Int):=by omega
   rw[e]
   obtain ⟨x,h1,rfl⟩:=aF (Q:=fun x=>x=(.exit 0,vY v m ((m:Nat):Int)++[(12,.bool false)],aD::aD::aD::ft p mk (mY z (m-1)) s v m::H)) (OA n H p mk (mY z (m-1)) s v m (m:Int)) (ly n 2) (eK (af _ _) 2) (ag _ _) (by
    exact wF)
   exact h1
theorem Qa (h1:1≤m) (hm:m≤100):cd (n+3) (.fn 96) [.slc 2 0 v 0 1 m (some m),.int .i64 0,.int .i64 (Int.ofNat m)] (aD::aD::ft p mk z s v m::H)=some (.tup [],aD::aD::ft p mk (mY z (m-1)) s v m::H):=by
 have l:=RP n H p mk z s v m h1 hm
 have e1:br .i64 0 1=((1:Nat):Int):=by rw[jj];rfl
 refine aS (n:=n+2) Try.func96 rfl rfl rfl (SF n H p mk z (mY z (m-1)) s v m ((m:Nat):Int)) (ly n 2) (aW (af _ _) PI (fun x hx=>by rw[← Tr.ab hx,e1];simp only[nj.st,g8];exact l)) (ag _ _) ?_
 exact wF
theorem P8 (h1:1≤m) (hm:m≤12) (lim:Int):cd (n+4) (.fn 91) [.slc 1 0 v 0 1 m (some m),.int .i64 0,.int .i64 (Int.ofNat m),.int .i64 lim] (aD::ft p mk z s v m::H)=some (.tup [],aD::ft p mk (mY z (m-1)) s v m::H):=by
 refine aS (n:=n+3) Try.func91 rfl rfl rfl (SD n H p mk z (mY z (m-1)) s v m lim) (yb _ (n+3) 0 (fun k=>ig (aR _) (fun x hx=>?_))) (af _ _) (ag _ _) ?_
 · rw[← Tr.ab hx,show n+3+k=n+k+3 by omega]
   exact Qa (n+k) H p mk z s v m h1 (by omega)
 · exact wF
def oP (x:Nat):Int:=if x<2 then 1 else if x<4 then 2 else if x<8 then 3 else 4
theorem Kr (n:Nat) (H:aa):cd (n+3) (.fn 92) [.int .u64 (Int.ofNat 1)] H=some (.int .i64 (oP 1),H):=by kernel_rfl
theorem Ks (n:Nat) (H:aa):cd (n+3) (.fn 92) [.int .u64 (Int.ofNat 2)] H=some (.int .i64 (oP 2),H):=by kernel_rfl
theorem Kt (n:Nat) (H:aa):cd (n+3) (.fn 92) [.int .u64 (Int.ofNat 3)] H=some (.int .i64 (oP 3),H):=by kernel_rfl
theorem Ku (n:Nat) (H:aa):cd (n+3) (.fn 92) [.int .u64 (Int.ofNat 4)] H=some (.int .i64 (oP 4),H):=by kernel_rfl
theorem Kv (n:Nat) (H:aa):cd (n+3) (.fn 92) [.int .u64 (Int.ofNat 5)] H=some (.int .i64 (oP 5),H):=by kernel_rfl
theorem Kw (n:Nat) (H:aa):cd (n+3) (.fn 92) [.int .u64 (Int.ofNat 6)] H=some (.int .i64 (oP 6),H):=by kernel_rfl
theorem Kx (n:Nat) (H:aa):cd (n+3) (.fn 92) [.int .u64 (Int.ofNat 7)] H=some (.int .i64 (oP 7),H):=by kernel_rfl
theorem Ky (n:Nat) (H:aa):cd (n+3) (.fn 92) [.int .u64 (Int.ofNat 8)] H=some (.int .i64 (oP 8),H):=by kernel_rfl
theorem Kz (n:Nat) (H:aa):cd (n+3) (.fn 92) [.int .u64 (Int.ofNat 9)] H=some (.int .i64 (oP 9),H):=by kernel_rfl
theorem IP (n:Nat) (H:aa):cd (n+3) (.fn 92) [.int .u64 (Int.ofNat 10)] H=some (.int .i64 (oP 10),H):=by kernel_rfl
theorem IQ (n:Nat) (H:aa):cd (n+3) (.fn 92) [.int .u64 (Int.ofNat 11)] H=some (.int .i64 (oP 11),H):=by kernel_rfl
theorem IS (n:Nat) (H:aa):cd (n+3) (.fn 92) [.int .u64 (Int.ofNat 12)] H=some (.int .i64 (oP 12),H):=by kernel_rfl
theorem P9 (x:Nat) (hx:1≤x∧x≤12) (n:Nat) (H:aa):cd (n+3) (.fn 92) [.int .u64 (Int.ofNat x)] H=some (.int .i64 (oP x),H):=by
 have:x=1∨x=2∨x=3∨x=4∨x=5∨x=6∨x=7∨x=8∨x=9∨x=10∨x=11∨x=12:=by omega
 rcases this with rfl | rfl | rfl | rfl | rfl | rfl | rfl | rfl | rfl | rfl | rfl | rfl
 · exact Kr n H
 · exact Ks n H
 · exact Kt n H
 · exact Ku n H
 · exact Kv n H
 · exact Kw n H
 · exact Kx n H
 · exact Ky n H
 · exact Kz n H
 · exact IP n H
 · exact IQ n H
 · exact IS n H
theorem PW (h1:1≤m) (hm:m≤12):cd (n+5) (.fn 63) [.slc 0 0 v 0 1 m (some m)] (ft p mk z s v m::H)=some (.tup [],ft p mk (mY z (m-1)) s v m::H):=by
 have ew:tE .u64 (Int.ofNat m)=Int.ofNat m:=by
  rw[AT]
  simp only[IntKind.wrap,IntKind.signed,IntKind.bits]
  simp
  omega
 refine aS (n:=n+4) Try.func63 rfl rfl rfl (Sq n H p mk z (mY z (m-1)) s v m (oP m)) (yb _ (n+4) 0 (fun k=>np (ig (aR _) (fun x hx=>?_)) (fun args p' v' hg hp H=>?_))) (af _ _) (ag _ _) ?_
 · rw[← Tr.ab hx,show n+4+k=n+k+4 by omega]
   exact P8 (n+k) H p mk z s v m h1 hm _
 · unfold Pr at hg
   split at hg
   · simp only[nP] at hg
     obtain ⟨rfl,rfl⟩:=hg
     subst hp
     rw[show n+4+k=n+1+k+3 by omega]
     exact P9 m ⟨h1,hm⟩ _ H
   · cases hg
 · rw[ew]
   refine Tr.aY rfl (Tr.aY ⟨rfl,rfl⟩ (Tr.bg ⟨rfl,rfl⟩))
end
end Go.Eng
end
section
namespace Go.Eng
open Go.Proofs
noncomputable def BG (m:Nat) (o:Nat→Int):aU:=⟨false,[(0,.row (.M [.arr .i64 (iO (fun _=>Int.ofNat 0) 0 o (p9 m (fy (Int.ofNat m)))) (fy (Int.ofNat m))]))]⟩
noncomputable def BH (m:Nat) (y:Nat→Int):aU:=⟨false,[(0,.row (.M [.arr .i64 y (fy (Int.ofNat m))]))]⟩
noncomputable def Bl (l:Nat) (t:Nat→Int) (k:Nat) (d e:Nat→Int) (h:Int) (m:Nat) (o:Nat→Int):ar:=[(8,.ptr 2 1 0 0),(22,.fn (.func 85) [] [.ptrT (some 2) (.G [dC 0 l t k d e]) 0,.ptrT none (.I .i64 [h]) 0]),(23,b7 m o false)]
noncomputable def uL (m:Nat) (o:Nat→Int):ar:=[(8,.ptr 2 1 0 0),(9,b7 m o false)]
theorem LI (n l k:Nat) (t d e:Nat→Int) (h:Int) (m:Nat) (o:Nat→Int) (L:gV) (L1:aU) (H:aa):aG (vN n 27 37 2 2) (il aK n 0) aO aP (part Try.f27 [1,1,1,1,0,1,0,0]) (hints (Bl l t k d e h m o)) (aD::L1::wh l t k d L::H) =
 Tr.ok (Ex.normal,[(8,AV.ptr 2 1 0 0,none),(9,AV.slcT none (Row.M [ah.arr .i64 o m]) 1 m false,none)],aD::L1::{ lock:=false,bs:=[(0,ai.row (Row.G [AV.slcT none (Row.M [ah.arr .i64 t l]) 1 l false,AV.slcT none (Row.M [ah.arr .i64 d k]) 1 k false])),(0,ai.row (Row.G [AV.nils])),(0,ai.loop L)] } :: H):=by kernel_rfl
theorem LG (n l k:Nat) (t d:Nat→Int) (m:Nat) (o y:Nat→Int) (L:gV) (L1:aU) (H:aa):aG (vN n 27 37 2 2) (il (z9 aK 63 [.slc 0 0 0 0 1 (fy (Int.ofNat m)) (some (fy (Int.ofNat m)))] (BG m o::L1::wh l t k d L::H) (.ok (.tup [],BH m y::L1::wh l t k d L::H))) n 0) aO aP (part Try.f27 [1,1,1,1,0,1,0,1]) (hints (uL m o)) (aD::L1::wh l t k d L::H) =
 (fun (Z0:Nat×ai)=>((fun (Z1:aU)=>Tr.req (H6 (Int.ofNat m) (Int.ofNat m) 8) (Tr.req (bY (p9 m (fy (Int.ofNat m))) m) (Tr.req (bY (bB 0 (p9 m (fy (Int.ofNat m)))) m) (Tr.req (bM 0 0) (Tr.req (iB 0 (p9 m (fy (Int.ofNat m))) 0 (fy (Int.ofNat m))) (Tr.reqP ([AV.slc 0 0 0 0 1 (fy (Int.ofNat m)) (some (fy (Int.ofNat m)))]=[AV.slc 0 0 0 0 1 (fy (Int.ofNat m)) (some (fy (Int.ofNat m)))]∧Z1::L1::{ lock:=false,bs:=[Z0,(0,ai.row (Row.G [AV.nils])),(0,ai.loop L)] } :: H=Z1::L1::{ lock:=false,bs:=[Z0,(0,ai.row (Row.G [AV.nils])),(0,ai.loop L)] } :: H) (Tr.req (bM 0 0) (Tr.req (iB 0 (fy (Int.ofNat m)) 0 (fy (Int.ofNat m))) (Tr.req (cF 0 1 24) (Tr.req (bM 0 0) (Tr.req (bY 1 1) (Tr.ok (Ex.normal,[],{ lock:=false,bs:=[(0,ai.dead),(0,ai.row (Row.G [AV.slcT none (Row.M [ah.arr .i64 (bm y 0) (fy (Int.ofNat m))]) 1 (fy (Int.ofNat m)) (bM (fy (Int.ofNat m)) (fy (Int.ofNat m)))])),(0,ai.dead)] } :: L1::{ lock:=false,bs:=[Z0,(0,ai.row (Row.G [AV.slc 0 3 0 0 1 1 none])),(0,ai.loop L),(0,ai.row (Row.F (fun x=>AV.slcT none (Row.M [ah.arr .i64 (bm y 0) (fy (Int.ofNat m))]) 1 (fy (Int.ofNat m)) false) 1))] } :: H))))))))))))) { lock:=false,bs:=[(0,ai.row (Row.M [ah.arr .i64 (iO (fun x=>Int.ofNat 0) 0 o (p9 m (fy (Int.ofNat m)))) (fy (Int.ofNat m))]))] })) (0,ai.row (Row.G [AV.slcT none (Row.M [ah.arr .i64 t l]) 1 l false,AV.slcT none (Row.M [ah.arr .i64 d k]) 1 k false])):=by kernel_rfl
theorem LJ (n l k:Nat) (t d e:Nat→Int) (h:Int) (m:Nat) (o:Nat→Int) (L:gV) (v q:Nat) (f:Nat→Nat→Int) (g:Nat→Nat) (L1:aU) (H:aa):aG (vN n 27 37 2 2) (il aK n 0) aO aP (part Try.f27 [1,1,1,1,0,1,0,0]) (hints (Bl l t k d e h m o)) (aD::L1::ju l t k d L v q f g::H) =
 Tr.ok (Ex.normal,[(8,AV.ptr 2 1 0 0,none),(9,AV.slcT none (Row.M [ah.arr .i64 o m]) 1 m false,none)],aD::L1::{ lock:=false,bs:=[(0,ai.row (Row.G [AV.slcT none (Row.M [ah.arr .i64 t l]) 1 l false,AV.slcT none (Row.M [ah.arr .i64 d k]) 1 k false])),(0,ai.row (Row.G [AV.slc 0 3 v 0 1 q none])),(0,ai.loop L),(v,ai.row (Row.F (fun j=>AV.slcT none (Row.M [ah.arr .i64 (f j) (g j)]) 1 (g j) false) q))] } :: H):=by kernel_rfl
theorem LH (n l k:Nat) (t d:Nat→Int) (m:Nat) (o y:Nat→Int) (L:gV) (v q:Nat) (f:Nat→Nat→Int) (g:Nat→Nat) (L1:aU) (H:aa):aG (vN n 27 37 2 2) (il (z9 aK 63 [.slc 0 0 0 0 1 (fy (Int.ofNat m)) (some (fy (Int.ofNat m)))] (BG m o::L1::ju l t k d L v q f g::H) (.ok (.tup [],BH m y::L1::ju l t k d L v q f g::H))) n 0) aO aP (part Try.f27 [1,1,1,1,0,1,0,1]) (hints (uL m o)) (aD::L1::ju l t k d L v q f g::H) =
 (fun (Z0:aU)=>((fun (Z1:aU)=>Tr.req (H6 (Int.ofNat m) (Int.ofNat m) 8) (Tr.req (bY (p9 m (fy (Int.ofNat m))) m) (Tr.req (bY (bB 0 (p9 m (fy (Int.ofNat m)))) m) (Tr.req (bM 0 0) (Tr.req (iB 0 (p9 m (fy (Int.ofNat m))) 0 (fy (Int.ofNat m))) (Tr.reqP ([AV.slc 0 0 0 0 1 (fy (Int.ofNat m)) (some (fy (Int.ofNat m)))]=[AV.slc 0 0 0 0 1 (fy (Int.ofNat m)) (some (fy (Int.ofNat m)))]∧Z1::L1::Z0::H=Z1::L1::Z0::H) (Tr.req (bM 0 0) (Tr.req (iB 0 (fy (Int.ofNat m)) 0 (fy (Int.ofNat m))) (Tr.req (cF q 1 24) (Tr.req (bM 0 0) (Tr.req (bY 1 1) (Tr.req (bM v v) (Tr.req (bM (bB 0 q) q) (Tr.reqP (DG (fun j=>AV.slcT none (Row.M [ah.arr .i64 (f (bB 0 j)) (g (bB 0 j))]) 1 (g (bB 0 j)) false) IntKind.i64 1 false) (Tr.ok (Ex.normal,[],{ lock:=false,bs:=[(0,ai.dead),(0,ai.row (Row.G [AV.slcT none (Row.M [ah.arr .i64 (bm y 0) (fy (Int.ofNat m))]) 1 (fy (Int.ofNat m)) (bM (fy (Int.ofNat m)) (fy (Int.ofNat m)))]))] } :: L1::{ lock:=false,bs:=[(0,ai.row (Row.G [AV.slcT none (Row.M [ah.arr .i64 t l]) 1 l false,AV.slcT none (Row.M [ah.arr .i64 d k]) 1 k false])),(0,ai.row (Row.G [AV.slc 0 3 (Nat.succ v) 0 1 (bB q 1) none])),(0,ai.loop L),(Nat.succ v,ai.row (Row.F (fun j=>AV.slcT none (Row.M [ah.arr .i64 (Hl (c9 j q) (f (bB 0 j)) (bm y 0)) (Dq (c9 j q) (g (bB 0 j)) (fy (Int.ofNat m)))]) 1 (Dq (c9 j q) (g (bB 0 j)) (fy (Int.ofNat m))) false) (bB q 1)))] } :: H)))))))))))))))) { lock:=false,bs:=[(0,ai.row (Row.M [ah.arr .i64 (iO (fun x=>Int.ofNat 0) 0 o (p9 m (fy (Int.ofNat m)))) (fy (Int.ofNat m))]))] })) { lock:=false,bs:=[(0,ai.row (Row.G [AV.slcT none (Row.M [ah.arr .i64 t l]) 1 l false,AV.slcT none (Row.M [ah.arr .i64 d k]) 1 k false])),(0,ai.row (Row.G [AV.slc 0 3 v 0 1 q none])),(0,ai.loop L),(v,ai.row (Row.F (fun j=>AV.slcT none (Row.M [ah.arr .i64 (f j) (g j)]) 1 (g j) false) q))] }:=by kernel_rfl
noncomputable def yl:Code:=part Try.f27 [1,1,1,1,0,1,0,0]
noncomputable def ym:Code:=part Try.f27 [1,1,1,1,0,1,0,1]
noncomputable def dH (l:Nat) (t:Nat→Int) (k:Nat) (d e:Nat→Int) (h:Int):gV:={ state:=.ready,pending:=none,fn:=27,nt:=37,fr:=[(8,.ptr 0 1 0 0),(22,.fn (.func 85) [] [.ptrT (some 0) (.G [dC 0 l t k d e]) 0,.ptrT none (.I .i64 [h]) 0])],params:=[23],assign:=yl,body:=ym }
noncomputable def AM (m:Nat) (o:Nat→Int):Nat→Int:=mY (iO (fun _=>Int.ofNat 0) 0 o m) (m-1)
theorem xi (m:Nat):fy (Int.ofNat m)=m:=by rw[qi];rfl
section
variable (n l k:Nat) (t d e:Nat→Int) (h:Int) (m:Nat) (o:Nat→Int) (L1:aU) (H:aa)
theorem Ko (G:aa) (h1:1≤m) (hm:m≤12):cd (n+5) (.fn 63) [.slc 0 0 0 0 1 (fy (Int.ofNat m)) (some (fy (Int.ofNat m)))] (BG m o::G)=some (.tup [],BH m (AM m o)::G):=by
 have:=PW n G 0 (fun _=>0) (iO (fun _=>Int.ofNat 0) 0 o m) .undef 0 m h1 hm
 unfold BG BH AM
 rw[xi,oZ,Nat.min_self]
 exact this
theorem Ly (h1:1≤m) (hm:m≤12):cd (n+6) (.round 1 2) [b7 m o false] (L1::wh l t k d (dH l t k d e h)::H)=some (.bool true,L1::ju l t k d (dH l t k d e h) 0 1 (fun _=>AM m o) (fun _=>m)::H):=by
 have h1':exec (vN (n+5) 27 37 2 2) yl (Bl l t k d e h m o) (aD::L1::wh l t k d (dH l t k d e h)::H)=some (.normal,uL m o,aD::L1::wh l t k d (dH l t k d e h)::H) :=
  pH (LI (n+5) l k t d e h m o (dH l t k d e h) L1 H) (aw _) (af _ _) (ag _ _) (Tr.bg rfl)
 have h2':∃ lv:aU,exec (vN (n+5) 27 37 2 2) ym (uL m o) (aD::L1::wh l t k d ({ dH l t k d e h with state:=.busy })::H)=some (.normal,[],lv::L1::ju l t k d ({ dH l t k d e h with state:=.busy }) 0 1 (fun _=>AM m o) (fun _=>m)::H):=by
  refine ⟨⟨false,[(0,.dead),(0,.row (.G [.slcT none (.M [.arr .i64 (AM m o) m]) 1 m (bM m m)])),(0,.dead)]⟩,pH (LG (n+5) l k t d m o (AM m o) { dH l t k d e h with state:=.busy } L1 H) (aX _ (n+5) (ig (aR _) (fun x hx=>by rw[← Tr.ab hx];exact Ko n m o _ h1 hm))) (af _ _) (ag _ _) ?_⟩
  generalize dH l t k d e h=L at *
  generalize AM m o=Y at *
  simp only[xi,di,w9,w8,bD,gf,Nat.zero_add,Bool.cond_decide,oZ,Nat.min_self,and_self]
  exact wF
 obtain ⟨lv,h2'⟩:=h2'
 exact s4 (l:=dH l t k d e h) (l2:={ dH l t k d e h with state:=.busy }) rfl rfl rfl rfl h1' h2' rfl rfl
theorem Lz (v q:Nat) (f:Nat→Nat→Int) (g:Nat→Nat) (h1:1≤m) (hm:m≤12) (hq:q<1000):cd (n+6) (.round 1 2) [b7 m o false] (L1::ju l t k d (dH l t k d e h) v q f g::H)=some (.bool true,L1::ju l t k d (dH l t k d e h) (v+1) (q+1) (fun j=>if j<q then f j else AM m o) (fun j=>if j<q then g j else m)::H):=by
 have h1':exec (vN (n+5) 27 37 2 2) yl (Bl l t k d e h m o) (aD::L1::ju l t k d (dH l t k d e h) v q f g::H)=some (.normal,uL m o,aD::L1::ju l t k d (dH l t k d e h) v q f g::H) :=
  pH (LJ (n+5) l k t d e h m o (dH l t k d e h) v q f g L1 H) (aw _) (af _ _) (ag _ _) (Tr.bg rfl)
 have h2':∃ lv:aU,exec (vN (n+5) 27 37 2 2) ym (uL m o) (aD::L1::ju l t k d ({ dH l t k d e h with state:=.busy }) v q f g::H)=some (.normal,[],lv::L1::ju l t k d ({ dH l t k d e h with state:=.busy }) (v+1) (q+1) (fun j=>if j<q then f j else AM m o) (fun j=>if j<q then g j else m)::H):=by
  refine ⟨⟨false,[(0,.dead),(0,.row (.G [.slcT none (.M [.arr .i64 (AM m o) m]) 1 m (bM m m)]))]⟩,pH (LH (n+5) l k t d m o (AM m o) { dH l t k d e h with state:=.busy } v q f g L1 H) (aX _ (n+5) (ig (aR _) (fun x hx=>by rw[← Tr.ab hx];exact Ko n m o _ h1 hm))) (af _ _) (ag _ _) ?_⟩
  generalize dH l t k d e h=L at *
  generalize AM m o=Y at *
  simp only[xi,di,w9,w8,bD,gf,Nat.zero_add,Bool.cond_decide,oZ,Nat.min_self,and_self]
  have ha:DG (fun j=>.slcT none (.M [.arr .i64 (f j) (g j)]) 1 (g j) false) .i64 1 false:=by rw[A5];exact fun j=>⟨_,_,_,rfl⟩
  repeat' first | (refine Tr.bj (fun hc=>?_) (fun hc=>?_)<;>(try simp (disch:=omega) only[nV,nW,ha] at hc)<;>try omega) | (refine Tr.cu ?_ ?_;· (try simp (disch:=omega) only[nV,nW,ha]);try omega) | (refine Tr.aY ?_ ?_;· first | exact trivial | rfl | exact ⟨rfl,rfl⟩ | exact ⟨rfl,rfl,rfl⟩ | (simp (disch:=omega) only[nV,nW,ha];done) | ((try simp (disch:=omega) only[nV,nW,ha]);omega)) | fail
  all_goals first
   | exact Tr.bg rfl
   | fail
 obtain ⟨lv,h2'⟩:=h2'
 exact s4 (l:=dH l t k d e h) (l2:={ dH l t k d e h with state:=.busy }) rfl rfl rfl rfl h1' h2' rfl rfl
end
end Go.Eng
end
section
namespace Go.Eng
open Go.Proofs
noncomputable def EL (l:Nat) (t:Nat→Int) (k:Nat) (d:Nat→Int):aU:=⟨false,[(0,.row (.G [b7 l t false,b7 k d false])),(0,.row (.G [.nils]))]⟩
noncomputable def H5 (l:Nat) (t:Nat→Int) (k:Nat) (d:Nat→Int) (v m:Nat) (f:Nat→Nat→Int) (g:Nat→Nat):aU:=⟨false,[(0,.row (.G [b7 l t false,b7 k d false])),(0,.row (.G [.slc 0 3 v 0 1 m none])),(0,.dead),(v,.row (.F (fun j=>b7 (g j) (f j) false) m))]⟩
noncomputable def xQ (l:Nat) (t:Nat→Int) (k:Nat) (d e:Nat→Int) (h:Int):ar:=[(8,.ptr 0 1 0 0),(22,.fn (.func 85) [] [.ptrT (some 0) (.G [dC 0 l t k d e]) 0,.ptrT none (.I .i64 [h]) 0])]
theorem Sp (n s l k:Nat) (t d g:Nat→Int) (h:Int) (H:aa):bn Try.prog (cd n) 100000 62 Try.f62 (KtL.kt 62) (il aK n 0) aO aP [(dC s l t k d g,none),(.int .i64 h,none)] H =
 Tr.ok ((AV.fn (Fn.func 85) [] [AV.ptrT (some 0) (Row.G [AV.ptrT (some s) (Row.M [ah.one (AV.slcT none (Row.M [ah.arr .i64 t l]) 1 l false),ah.one (AV.slcT none (Row.M [ah.arr .i64 d k]) 1 k false),ah.arr .i64 g 30]) 0]) 0,AV.ptrT none (Row.I .i64 [h]) 0],none),H):=by kernel_rfl
theorem Sd (n l k:Nat) (t d e:Nat→Int) (h:Int) (v m:Nat) (f:Nat→Nat→Int) (g:Nat→Nat) (H:aa):bn Try.prog (cd n) 100000 27 Try.f27 (KtL.kt 27) (il (tX (tX aK 61 [dx l t k d,.int .i64 h,.int .i64 0] (.tup [dC 0 l t k d e,.int .i64 0])) 62 [dC 0 l t k d e,.int .i64 h] (.fn (.func 85) [] [.ptrT (some 0) (.G [dC 0 l t k d e]) 0,.ptrT none (.I .i64 [h]) 0])) n 0) aO (Kd aP (fun _=>true) (xQ l t k d e h) (EL l t k d::H) (.ok (.normal,hints (xQ l t k d e h),H5 l t k d v m f g::H))) [(dx l t k d,none),(.int .i64 h,none)] H =
 (fun (Z0:Row)=>((fun (Z1:Row)=>((fun (Z2:ar)=>Tr.reqP ([AV.agg Z1,AV.int .i64 h,AV.int .i64 (Int.ofNat 0)]=[AV.agg Z1,AV.int .i64 h,AV.int .i64 (Int.ofNat 0)]) (Tr.ite (ba (cQ (Int.ofNat 0) (Int.ofNat 0))) (Tr.ok ((AV.tup [AV.nils,AV.int .i64 (Int.ofNat 0)],none),H)) (Tr.reqP ([AV.ptrT (some 0) Z0 0,AV.int .i64 h]=[AV.ptrT (some 0) Z0 0,AV.int .i64 h]) (Tr.reqP (Z2=Z2∧{ lock:=false,bs:=[(0,ai.row Z1),(0,ai.row (Row.G [AV.nils]))] } :: H={ lock:=false,bs:=[(0,ai.row Z1),(0,ai.row (Row.G [AV.nils]))] } :: H) (Tr.req (bM v v) (Tr.req (iB 0 m 0 m) (Tr.ok ((AV.tup [AV.slcT none (Row.F (fun j=>AV.slcT none (Row.M [ah.arr .i64 (f (bB 0 j)) (g (bB 0 j))]) 1 (g (bB 0 j)) false) m) 1 m false,AV.int .i64 (Int.ofNat 0)],none),H)))))))) [(8,AV.ptr 0 1 0 0),(22,AV.fn (Fn.func 85) [] [AV.ptrT (some 0) (Row.G [AV.ptrT (some 0) Z0 0]) 0,AV.ptrT none (Row.I .i64 [h]) 0])])) (Row.G [AV.slcT none (Row.M [ah.arr .i64 t l]) 1 l false,AV.slcT none (Row.M [ah.arr .i64 d k]) 1 k false]))) (Row.M [ah.one (AV.slcT none (Row.M [ah.arr .i64 t l]) 1 l false),ah.one (AV.slcT none (Row.M [ah.arr .i64 d k]) 1 k false),ah.arr .i64 e 30]):=by kernel_rfl
theorem OG (n l k:Nat) (t d:Nat→Int) (h c:Int) (H:aa):bn Try.prog (cd n) 100000 27 Try.f27 (KtL.kt 27) (il (tX aK 61 [dx l t k d,.int .i64 h,.int .i64 0] (.tup [.nilp,.int .i64 c])) n 0) aO (Kd aP (fun _=>true) [] [] .bad) [(dx l t k d,none),(.int .i64 h,none)] H =
 (fun (Z0:List AV)=>Tr.reqP (Z0=Z0) (Tr.ite (ba (cQ c (Int.ofNat 0))) (Tr.ok ((AV.tup [AV.nils,AV.int .i64 c],none),H)) Tr.bad)) [AV.agg (Row.G [AV.slcT none (Row.M [ah.arr .i64 t l]) 1 l false,AV.slcT none (Row.M [ah.arr .i64 d k]) 1 k false]),AV.int .i64 h,AV.int .i64 (Int.ofNat 0)]:=by kernel_rfl
end Go.Eng
end
section
namespace Go.Eng
open Go.Proofs
theorem PV (n s l k:Nat) (t d g:Nat→Int) (h:Int) (H:aa):cd (n+1) (.fn 62) [dC s l t k d g,.int .i64 h] H=some (.fn (.func 85) [] [.ptrT (some 0) (.G [dC s l t k d g]) 0,.ptrT none (.I .i64 [h]) 0],H):=by
 refine aS (n:=n) Try.func62 rfl rfl rfl (Sp n s l k t d g h H) (aw _) (af _ _) (ag _ _) ?_
 exact wF
noncomputable def gP (l k:Nat) (t d:Nat→Int) (h:Int) (m j:Nat):Nat:=(wX l k t d h (min j m)).length
noncomputable def fP (l k:Nat) (t d:Nat→Int) (h:Int) (m j:Nat):Nat→Int:=AM (gP l k t d h m j) (al (wX l k t d h (min j m)))
theorem Gr (l k:Nat) (t d:Nat→Int) (h:Int) (m:Nat):(fun j=>if j<m+1 then gP l k t d h m j else (wX l k t d h (m+1)).length)=gP l k t d h (m+1):=by
 funext j
 unfold gP
 by_cases c:j<m+1
 · rw[if_pos c,show min j m=j by omega,show min j (m+1)=j by omega]
 · rw[if_neg c,show min j (m+1)=m+1 by omega]
theorem Gk (l k:Nat) (t d:Nat→Int) (h:Int) (m:Nat):(fun j=>if j<m+1 then fP l k t d h m j else AM (wX l k t d h (m+1)).length (al (wX l k t d h (m+1))))=fP l k t d h (m+1):=by
 funext j
 unfold fP gP
 by_cases c:j<m+1
 · rw[if_pos c,show min j m=j by omega,show min j (m+1)=j by omega]
 · rw[if_neg c,show min j (m+1)=m+1 by omega]
section
variable (n l k:Nat) (t d:Nat→Int) (h:Int) (H:aa)
theorem JL (hs:Sh l t k d) (hc:ct l t d h=true) (hh:1≤h∧h≤10) (m:Nat) (hm:m<im l t d h):1≤(wX l k t d h m).length∧(wX l k t d h m).length≤h.toNat:=by
 have e:h=(h.toNat:Int):=by omega
 obtain ⟨M,a,b,c,f⟩:=FF (H:=h.toNat) (z:=zP l t k d (im l t d h:Nat)) (f0:=bR (c7 t l)) hs.l30 hs.tl (by omega) (fun i hi=>by
  rw[r8 hs i hi]
  have:=oh (fun x=>decide (t x=(i:Int))) l
  have:=hs.l30
  omega)
 have hM:=vA hs hc e a b c
 obtain ⟨P,p1,p2⟩:=f m (by omega)
 obtain ⟨q,a1,a2,a3,a4,a5,a6,_⟩:=FM (z:=zP l t k d (im l t d h:Nat)) hs.l30 hs.tl (show 0<h.toNat by omega) (b m (by omega)) p2
 unfold wX JK
 rw[a5,a6]
 omega
noncomputable def I4 (l k:Nat) (t d:Nat→Int) (h:Int) (H:aa):Nat→aa
 | 0=>wh l t k d (dH l t k d (c7 t l) h)::H
 | m+1=>ju l t k d (dH l t k d (c7 t l) h) m (m+1) (fP l k t d h m) (gP l k t d h m)::H
theorem SI (hs:Sh l t k d) (hc:ct l t d h=true) (hh:1≤h∧h≤10) (T:Nat) (hT:im l t d h=T+1):exec (bx (n+7) 27 37) (.rangeFunc (.tmp 22) #[23] yl ym) (xQ l t k d (c7 t l) h) (EL l t k d::H)=some (.normal,xQ l t k d (c7 t l) h,H5 l t k d T (T+1) (fP l k t d h T) (gP l k t d h T)::H):=by
 have hy:∀ m,m<im l t d h→∀ L:aU,L.lock=false→cd (n+1+5) (.round 1 2) [b7 (wX l k t d h m).length (al (wX l k t d h m)) false] (L::I4 l k t d h H m)=some (.bool true,L::I4 l k t d h H (m+1)):=fun m hm L _=>by
  obtain ⟨r1,r2⟩:=JL l k t d h hs hc hh m hm
  have htr:=(pk hs hc).2.2
  cases m with
  | zero =>
    have:=Ly n l k t d (c7 t l) h (wX l k t d h 0).length (al (wX l k t d h 0)) L H r1 (by omega)
    have e1:gP l k t d h 0=fun _=>(wX l k t d h 0).length:=by funext j;unfold gP;rw[Nat.min_zero]
    have e2:fP l k t d h 0=fun _=>AM (wX l k t d h 0).length (al (wX l k t d h 0)):=by funext j;unfold fP gP;rw[Nat.min_zero]
    show _=some (_,L::ju l t k d (dH l t k d (c7 t l) h) 0 1 (fP l k t d h 0) (gP l k t d h 0)::H)
    rw[e1,e2]
    exact this
  | succ m =>
    have:=Lz n l k t d (c7 t l) h (wX l k t d h (m+1)).length (al (wX l k t d h (m+1))) L H m (m+1) (fP l k t d h m) (gP l k t d h m) r1 (by omega) (by omega)
    rw[Gr,Gk] at this
    exact this
 have hcall:=MM (n+1) 0 l k t d h (I4 l k t d h H) hs hc hh hy
 rw[hT] at hcall
 exact zb (cx:=bx (n+7) 27 37) (l:=dH l t k d (c7 t l) h) (f:=.tmp 22) (ps:=#[23]) (fr:=xQ l t k d (c7 t l) h) (H:=EL l t k d::H) (g:=85) (a:=[]) (b:=[.ptrT (some 0) (.G [dC 0 l t k d (c7 t l)]) 0,.ptrT none (.I .i64 [h]) 0]) rfl rfl rfl hcall rfl rfl rfl
theorem R6:dV (bO Try.f27)=[(.tmp 22,#[23],yl,ym)]:=by kernel_rfl
noncomputable def Ml (l k:Nat) (t d:Nat→Int) (h:Int):AV:=if bQ l k t d h=0 then .tup [R8 (im l t d h) (fP l k t d h (im l t d h-1)) (gP l k t d h (im l t d h-1)),.int .i64 0] else .tup [.nils,.int .i64 (bQ l k t d h)]
theorem PN:cd (n+12) (.fn 27) [dx l t k d,.int .i64 h] H=some (Ml l k t d h,H):=by
 unfold Ml
 by_cases e:bQ l k t d h=0
 · rw[if_pos e]
   obtain ⟨e1,e2⟩:=ru e
   obtain ⟨hs,h1,h2⟩:=rN e1
   obtain ⟨_,b,_⟩:=pk hs e2
   obtain ⟨T,hT⟩:∃ T,im l t d h=T+1:=⟨im l t d h-1,by omega⟩
   have hx:=SI (n+4) l k t d h H hs e2 ⟨h1,h2⟩ T hT
   rw[hT,Nat.add_sub_cancel]
   refine aS (n:=n+11) Try.func27 rfl rfl rfl (Sd (n+11) l k t d (c7 t l) h T (T+1) (fP l k t d h T) (gP l k t d h T) H) (aX _ (n+11) (b5 (b5 (aR _) (fun H=>Kn n l k t d H h e)) (fun H=>PV (n+10) 0 l k t d (c7 t l) h H))) (af _ _) (wS (ag _ _) (fun f ps a b _ hm x hx2=>by
    rw[R6] at hm
    simp only[List.mem_cons,Prod.mk.injEq,List.not_mem_nil,or_false] at hm
    obtain ⟨rfl,rfl,rfl,rfl⟩:=hm
    rw[← Tr.ab hx2];exact hx)) ?_
   show Tr.all _ _
   simp only[bD,Nat.zero_add]
   generalize fP l k t d h T=A at *
   generalize gP l k t d h T=B at *
   exact wF
 · rw[if_neg e]
   refine aS (n:=n+11) Try.func27 rfl rfl rfl (OG (n+11) l k t d h (bQ l k t d h) H) (aX _ (n+11) (b5 (aR _) (fun H=>Km n l k t d H h e))) (af _ _) (wS (ag _ _) (fun f ps a b _ hm x hx2=>(Tr.ae hx2).elim)) ?_
   generalize bQ l k t d h=N at *
   exact wF
end
end Go.Eng
end
section
namespace Go.Eng
open Go.Proofs
section
variable (n l k:Nat) (t d z:Nat→Int) (m:Nat) (f:Nat→Nat→Int) (g:Nat→Nat) (H:aa)
end
end Go.Eng
end
section
namespace Go.Eng
open Go.Proofs
section
variable (n l k:Nat) (t d:Nat→Int) (m:Nat) (f:Nat→Nat→Int) (g:Nat→Nat) (H:aa)
end
end Go.Eng
end
section
namespace Go.Eng
open Go.Proofs
end Go.Eng
end
section
namespace Go.Eng
open Go.Proofs
section
variable (n l k:Nat) (t d z:Nat→Int) (m:Nat) (f:Nat→Nat→Int) (g:Nat→Nat) (H:aa)
end
end Go.Eng
end
section
namespace Go.Eng
open Go.Proofs
section
variable (n l k:Nat) (t d z:Nat→Int) (h:Int) (m:Nat) (f:Nat→Nat→Int) (g:Nat→Nat) (H:aa)
end
end Go.Eng
end
section
namespace Go.Eng
open Go.Proofs
section
variable (n l k:Nat) (t d z:Nat→Int) (h:Int) (m:Nat) (f:Nat→Nat→Int) (g:Nat→Nat) (H:aa)
end
end Go.Eng
end
section
namespace Go.Eng
open Go.Proofs
section
variable (n l k:Nat) (t d:Nat→Int) (m:Nat) (f:Nat→Nat→Int) (g:Nat→Nat) (H:aa)
end
end Go.Eng
end
section
namespace Go.Eng
section
variable {l k:Nat} {t d:Nat→Int} {h:Int}
end
end Go.Eng
end
section
namespace Go.Eng
section
variable {l k:Nat} {t d:Nat→Int} {h:Int}
end
end Go.Eng
end
section
namespace Go.Eng
section
variable {l m:Nat} {f:Nat→Nat→Int} {g:Nat→Nat}
end
section
variable {l k:Nat} {t d:Nat→Int} {h:Int} {m:Nat} {f:Nat→Nat→Int} {g:Nat→Nat}
end
end Go.Eng
end
section
namespace Go.Eng
open Go.Proofs
section
variable {m m':Nat} {f f':Nat→Nat→Int} {g g':Nat→Nat}
end
section
variable (n l k:Nat) (t d:Nat→Int) (h:Int) (m:Nat) (f:Nat→Nat→Int) (g:Nat→Nat) (H:aa)
end
end Go.Eng
end
section
namespace Go.Eng
open Go.Proofs
section
variable (n l k:Nat) (t d:Nat→Int) (h w:Int) (m:Nat) (f:Nat→Nat→Int) (g:Nat→Nat) (H:aa)
end
end Go.Eng
end
section
namespace Go.Eng
open Go.Proofs
noncomputable def CS (q:Nat) (z:Nat→Int) (u:Bool) (x j:Int):ar:=[(0,b7 q z u),(1,.int .i64 x),(5,.int .i64 j)]
theorem t49 (n q:Nat) (z:Nat→Int) (u:Bool) (x j:Int) (H:aa):aG (bx n 49 18) (il aK n 0) aO aP (part Try.f49 [1,0,1,0,0]) (hints (CS q z u x j)) (aD::H) =
 Tr.ite (cq j (Int.ofNat q)) (Tr.req (dv j q) (Tr.req (c9 (ay 0 j 1) q) (Tr.ite (cQ (z (ay 0 j 1)) x) (Tr.ok (Ex.ret,[(4,AV.bool true,some 1)],aD::H)) (Tr.ok (Ex.normal,[(0,AV.slcT none (Row.M [ah.arr .i64 z q]) 1 q u,none),(1,AV.int .i64 x,none),(5,AV.int .i64 (br .i64 j (Int.ofNat 1)),none)],aD::H))))) (Tr.ok (Ex.exit 0,[(0,AV.slcT none (Row.M [ah.arr .i64 z q]) 1 q u,none),(1,AV.int .i64 x,none),(5,AV.int .i64 j,none),(9,AV.bool false,some 1)],aD::H)):=by kernel_rfl
theorem Sg (n q:Nat) (z:Nat→Int) (u:Bool) (x:Int) (b:Bool) (H:aa):bn Try.prog (cd n) 100000 49 Try.f49 (KtL.kt 49) (il aK n 0) (cX aO 0 (CS q z u x 0) (aD::H) (.ite b (.ok (.ret,hints [(4,.bool true)],aD::H)) (.ok (.normal,hints (CS q z u x (Int.ofNat q)++[(9,.bool false)]),aD::H)))) aP [(b7 q z u,none),(.int .i64 x,none)] H =
 (fun (Z0:ar)=>Tr.reqP (Z0=Z0∧aD::H=aD::H) (Tr.ite b (Tr.ok ((AV.bool true,none),H)) (Tr.ok ((AV.bool false,some 1),H)))) [(0,AV.slcT none (Row.M [ah.arr .i64 z q]) 1 q u),(1,AV.int .i64 x),(5,AV.int .i64 (Int.ofNat 0))]:=by kernel_rfl
theorem OL (n:Nat) (x:Int) (H:aa):bn Try.prog (cd n) 100000 49 Try.f49 (KtL.kt 49) (il aK n 0) aO aP [(.nils,none),(.int .i64 x,none)] H =
 Tr.ok ((AV.bool false,some 1),H):=by kernel_rfl
theorem Px:∀ b,(0,b) ∈ aN (bO Try.f49)→b=.loop (part Try.f49 [1,0,1,0,0]):=gq (by kernel_rfl)
theorem GN (L:List Int) (x:Int):fA (fun i=>decide (al L i=x)) L.length=decide (x ∈ L):=by
 rw[Bool.eq_iff_iff,gQ,decide_eq_true_eq]
 constructor
 · rintro ⟨i,h1,h2⟩
   rw[decide_eq_true_eq,gT] at h2
   have h2:L.getD i 0=x:=h2
   rw[← h2,show L.getD i 0=L[i] from by rw[List.getD_eq_getElem?_getD,List.getElem?_eq_getElem h1];rfl]
   exact List.getElem_mem _
 · intro h
   obtain ⟨i,h1,h2⟩:=List.mem_iff_getElem.1 h
   refine ⟨i,h1,?_⟩
   rw[decide_eq_true_eq,gT,← h2]
   show L.getD i 0=L[i]
   rw[List.getD_eq_getElem?_getD,List.getElem?_eq_getElem h1];rfl
section
variable (n l k:Nat) (t d z:Nat→Int) (H:aa)
theorem MA (x:Int):cd (n+1) (.fn 49) [.nils,.int .i64 x] H=some (.bool false,H):=by
 refine aS (n:=n) Try.func49 rfl rfl rfl (OL n x H) (aw _) (af _ _) (ag _ _) ?_
 exact wF
theorem PR (q:Nat) (y:Nat→Int) (u:Bool) (x:Int) (hq:q≤1000):cd (n+1) (.fn 49) [b7 q y u,.int .i64 x] H=some (.bool (fA (fun i=>decide (y i=x)) q),H):=by
 have hx:=qu (n:=n) (f:=49) (nt:=18) (c:=part Try.f49 [1,0,1,0,0]) 0 (fun j=>CS q y u x (j:Nat)) (fun j=>aD::H) q (fun i=>decide (y i=x)) (fun j=>([(4,.bool true)],aD::H)) (CS q y u x (Int.ofNat q)++[(9,.bool false)],aD::H) (by omega) (fun j hj=>?_) ?_
 · refine aS (n:=n) Try.func49 rfl rfl rfl (Sg n q y u x (fA (fun i=>decide (y i=x)) q) H) (aw _) (aW (af _ _) Px (fun x hy=>jm hy hx)) (ag _ _) ?_
   generalize fA (fun i=>decide (y i=x)) q=B at *
   cases B
   all_goals
    exact wF
 · refine aF (t49 n q y u x (j:Nat) H) (aw n) (af _ _) (ag _ _) ?_
   show Tr.all _ (fun r=>if decide (y j=x)=true then _ else _∧tidy _ _ _=(CS q y u x ((j+1:Nat):Int),aD::H))
   rw[dJ (j:=j) (by omega)]
   simp only[mV]
   by_cases c:y j=x
   · rw[decide_eq_true c]
     simp only[if_true]
     exact wF
   · rw[decide_eq_false c]
     simp only[Bool.false_eq_true,if_false]
     exact wF
 · exact eV (t49 n q y u x (Int.ofNat q) H) (aw n) (af _ _) (ag _ _) (by first | (simp (disch:=omega) only[nV,nW];done) | (simp (disch:=omega) only[nV,nW];omega))
end
end Go.Eng
end
