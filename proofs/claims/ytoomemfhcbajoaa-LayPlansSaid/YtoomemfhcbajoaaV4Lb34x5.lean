/- Lay: the sort of at most twelve numbers in a row of the caller (turned from drop's Ki). -/
import Derived.Test.YtoomemfhcbajoaaV4Lp9x7
set_option linter.unusedVariables false
set_option linter.unusedSimpArgs false
set_option maxRecDepth 100000
section
namespace Go.Eng
open Go.Proofs
def Rs (x l:Int):List AV→Option (Prop×AV)
 | [.int .u64 y]=>some (y=x,.int .i64 l)
 | _=>none
noncomputable def fQ (p:Int) (mk z:Nat→Int) (s:AV) (v m:Nat):aX:=⟨false,[(v,.row (.M [.arr .i64 z m]))]⟩
noncomputable def wQ (v m:Nat) (i:Int):ar:=[(0,.slc 3 0 v 0 1 m (some m)),(1,.int .i64 0),(2,.int .i64 (Int.ofNat m)),(6,.int .i64 i)]
noncomputable def oW (v m:Nat) (i j:Int):ar:=[(0,.slc 3 0 v 0 1 m (some m)),(1,.int .i64 0),(2,.int .i64 (Int.ofNat m)),(6,.int .i64 i),(7,.int .i64 j)]
theorem UO (n:Nat) (H:aa) (p:Int) (mk z z2:Nat→Int) (s:AV) (v m:Nat) (lim:Int):aT Try.prog (cd (n+4)) 100000 63 Try.f63 (KtL.kt 63) (il (ur (yk aB 91 [.slc 1 0 v 0 1 m (some m),.int .i64 0,.int .i64 (Int.ofNat m),.int .i64 lim] (az::fQ p mk z s v m::H) (.ok (.tup [],az::fQ p mk z2 s v m::H))) 92 (Rs (Int.ofNat m) lim)) (n+4) 0) aG aH [(.slc 0 0 v 0 1 m (some m),none)] (fQ p mk z s v m::H) =
 (fun (Z0:List AV)=>Tr.reqP (NR IntKind.u64 (Int.ofNat m)=Int.ofNat m) (Tr.reqP (Z0=Z0∧az::{ lock:=false,bs:=[(v,ai.row (Row.M [ah.arr .i64 z m]))] } :: H=az::{ lock:=false,bs:=[(v,ai.row (Row.M [ah.arr .i64 z m]))] } :: H) (Tr.ok ((AV.tup [],none),{ lock:=false,bs:=[(v,ai.row (Row.M [ah.arr .i64 z2 m]))] } :: H)))) [AV.slc 1 0 v 0 1 m (some m),AV.int .i64 (Int.ofNat 0),AV.int .i64 (Int.ofNat m),AV.int .i64 lim]:=by kernel_rfl
theorem U2 (n:Nat) (H:aa) (p:Int) (mk z z2:Nat→Int) (s:AV) (v m:Nat) (lim:Int):aT Try.prog (cd (n+3)) 100000 91 Try.f91 (KtL.kt 91) (il (yk aB 96 [.slc 2 0 v 0 1 m (some m),.int .i64 0,.int .i64 (Int.ofNat m)] (az::az::fQ p mk z s v m::H) (.ok (.tup [],az::az::fQ p mk z2 s v m::H))) (n+3) 0) aG aH [(.slc 1 0 v 0 1 m (some m),none),(.int .i64 0,none),(.int .i64 (Int.ofNat m),none),(.int .i64 lim,none)] (az::fQ p mk z s v m::H) =
 Tr.ite (lU (bC .i64 (Int.ofNat m) (Int.ofNat 0)) (Int.ofNat 12)) (Tr.reqP ([AV.slc 2 0 v 0 1 m (some m),AV.int .i64 (Int.ofNat 0),AV.int .i64 (Int.ofNat m)]=[AV.slc 2 0 v 0 1 m (some m),AV.int .i64 (Int.ofNat 0),AV.int .i64 (Int.ofNat m)]∧az::az::{ lock:=false,bs:=[(v,ai.row (Row.M [ah.arr .i64 z m]))] } :: H=az::az::{ lock:=false,bs:=[(v,ai.row (Row.M [ah.arr .i64 z m]))] } :: H) (Tr.ok ((AV.tup [],none),az::{ lock:=false,bs:=[(v,ai.row (Row.M [ah.arr .i64 z2 m]))] } :: H))) (Tr.ite (cw lim (Int.ofNat 0)) Tr.bad Tr.bad):=by kernel_rfl
theorem U6 (n:Nat) (H:aa) (p:Int) (mk z z2:Nat→Int) (s:AV) (v m:Nat) (i2:Int):aT Try.prog (cd (n+2)) 100000 96 Try.f96 (KtL.kt 96) (il aB n 2) (bG aG 0 (wQ v m (bu .i64 0 1)) (az::az::az::fQ p mk z s v m::H) (.ok (.normal,hints (wQ v m i2++[(12,.bool false)]),az::az::az::fQ p mk z2 s v m::H))) aH [(.slc 2 0 v 0 1 m (some m),none),(.int .i64 0,none),(.int .i64 (Int.ofNat m),none)] (az::az::fQ p mk z s v m::H) =
 (fun (Z0:ar)=>Tr.reqP (Z0=Z0∧az::az::az::{ lock:=false,bs:=[(v,ai.row (Row.M [ah.arr .i64 z m]))] } :: H=az::az::az::{ lock:=false,bs:=[(v,ai.row (Row.M [ah.arr .i64 z m]))] } :: H) (Tr.ok ((AV.tup [],none),az::az::{ lock:=false,bs:=[(v,ai.row (Row.M [ah.arr .i64 z2 m]))] } :: H))) [(0,AV.slc 3 0 v 0 1 m (some m)),(1,AV.int .i64 (Int.ofNat 0)),(2,AV.int .i64 (Int.ofNat m)),(6,AV.int .i64 (bu .i64 (Int.ofNat 0) (Int.ofNat 1)))]:=by kernel_rfl
theorem Qf (n:Nat) (H:aa) (p:Int) (mk z z2:Nat→Int) (s:AV) (v m:Nat) (i j2:Int):aJ (bo (n+2) 96 49) (il aB n 2) (bG aG 2 (oW v m i i) (az::az::az::fQ p mk z s v m::H) (.ok (.normal,hints (oW v m i j2++[(30,.bool false)]),az::az::az::fQ p mk z2 s v m::H))) aH (part Try.f96 [1,0,0]) (hints (wQ v m i)) (az::az::az::fQ p mk z s v m::H) =
 (fun (Z0:ar)=>((fun (Z1:aX)=>Tr.ite (bT i (Int.ofNat m)) (Tr.reqP (Z0=Z0∧az::az::az::Z1::H=az::az::az::Z1::H) (Tr.ok (Ex.normal,[(0,AV.slc 3 0 v 0 1 m (some m),none),(1,AV.int .i64 (Int.ofNat 0),none),(2,AV.int .i64 (Int.ofNat m),none),(6,AV.int .i64 (bu .i64 i (Int.ofNat 1)),none)],az::az::az::{ lock:=false,bs:=[(v,ai.row (Row.M [ah.arr .i64 z2 m]))] } :: H))) (Tr.ok (Ex.exit 0,[(0,AV.slc 3 0 v 0 1 m (some m),none),(1,AV.int .i64 (Int.ofNat 0),none),(2,AV.int .i64 (Int.ofNat m),none),(6,AV.int .i64 i,none),(12,AV.bool false,some 1)],az::az::az::Z1::H))) { lock:=false,bs:=[(v,ai.row (Row.M [ah.arr .i64 z m]))] })) [(0,AV.slc 3 0 v 0 1 m (some m)),(1,AV.int .i64 (Int.ofNat 0)),(2,AV.int .i64 (Int.ofNat m)),(6,AV.int .i64 i),(7,AV.int .i64 i)]:=by kernel_rfl
theorem Qe (n:Nat) (H:aa) (p:Int) (mk z:Nat→Int) (s:AV) (v m:Nat) (i:Int):aJ (bo (n+2) 96 49) (il aB n 2) (lM aG 2) aH (part Try.f96 [1,0,0]) (hints (wQ v m i)) (az::az::az::fQ p mk z s v m::H) =
 Tr.ite (bT i (Int.ofNat m)) Tr.bad (Tr.ok (Ex.exit 0,[(0,AV.slc 3 0 v 0 1 m (some m),none),(1,AV.int .i64 (Int.ofNat 0),none),(2,AV.int .i64 (Int.ofNat m),none),(6,AV.int .i64 i,none),(12,AV.bool false,some 1)],az::az::az::{ lock:=false,bs:=[(v,ai.row (Row.M [ah.arr .i64 z m]))] } :: H)):=by kernel_rfl
theorem K8 (n:Nat) (H:aa) (p:Int) (mk z:Nat→Int) (s:AV) (v m:Nat) (i j:Int):aJ (bo (n+2) 96 49) (il aB n 2) aG aH (part Try.f96 [1,0,0,1,0,0,1,0,0]) (hints (oW v m i j)) (az::az::az::fQ p mk z s v m::H) =
 (fun (Z0:aO)=>((fun (Z1:aO)=>((fun (Z2:aX)=>((fun (Z3:aX)=>Tr.ite (bT (Int.ofNat 0) j) (Tr.req (b8 j m) (Tr.req (b6 v v) (Tr.req (bV (an 0 j 1) m) (Tr.req (b8 (bC .i64 j (Int.ofNat 1)) m) (Tr.req (b6 v v) (Tr.req (bV (an 0 (bC .i64 j (Int.ofNat 1)) 1) m) (Tr.ite (aQ (cw (z (an 0 j 1)) (z (an 0 j 1)))) (Tr.ite (aQ (aQ (cw (z (an 0 (bC .i64 j (Int.ofNat 1)) 1)) (z (an 0 (bC .i64 j (Int.ofNat 1)) 1))))) (Tr.req (b8 (bC .i64 j (Int.ofNat 1)) m) (Tr.req (b6 v v) (Tr.req (bV (an 0 (bC .i64 j (Int.ofNat 1)) 1) m) (Tr.req (b8 j m) (Tr.req (b6 v v) (Tr.req (bV (an 0 j 1) m) (Tr.req (b8 j m) (Tr.req (b6 v v) (Tr.req (bV (an 0 j 1) m) (Tr.req (jZ (gH v v) (gH v (Nat.succ v))) (Tr.req (b8 (bC .i64 j (Int.ofNat 1)) m) (Tr.req (b6 v v) (Tr.req (bV (an 0 (bC .i64 j (Int.ofNat 1)) 1) m) (Tr.req (jZ (gH v v) (gH v (Nat.succ v))) (Tr.ok (Ex.normal,Z1,az::az::az::Z2::H)))))))))))))))) (Tr.ite (bT (z (an 0 j 1)) (z (an 0 (bC .i64 j (Int.ofNat 1)) 1))) (Tr.req (b8 (bC .i64 j (Int.ofNat 1)) m) (Tr.req (b6 v v) (Tr.req (bV (an 0 (bC .i64 j (Int.ofNat 1)) 1) m) (Tr.req (b8 j m) (Tr.req (b6 v v) (Tr.req (bV (an 0 j 1) m) (Tr.req (b8 j m) (Tr.req (b6 v v) (Tr.req (bV (an 0 j 1) m) (Tr.req (jZ (gH v v) (gH v (Nat.succ v))) (Tr.req (b8 (bC .i64 j (Int.ofNat 1)) m) (Tr.req (b6 v v) (Tr.req (bV (an 0 (bC .i64 j (Int.ofNat 1)) 1) m) (Tr.req (jZ (gH v v) (gH v (Nat.succ v))) (Tr.ok (Ex.normal,Z1,az::az::az::Z2::H)))))))))))))))) (Tr.ok (Ex.exit 2,Z0,az::az::az::Z3::H)))) (Tr.ite (bT (z (an 0 j 1)) (z (an 0 (bC .i64 j (Int.ofNat 1)) 1))) (Tr.req (b8 (bC .i64 j (Int.ofNat 1)) m) (Tr.req (b6 v v) (Tr.req (bV (an 0 (bC .i64 j (Int.ofNat 1)) 1) m) (Tr.req (b8 j m) (Tr.req (b6 v v) (Tr.req (bV (an 0 j 1) m) (Tr.req (b8 j m) (Tr.req (b6 v v) (Tr.req (bV (an 0 j 1) m) (Tr.req (jZ (gH v v) (gH v (Nat.succ v))) (Tr.req (b8 (bC .i64 j (Int.ofNat 1)) m) (Tr.req (b6 v v) (Tr.req (bV (an 0 (bC .i64 j (Int.ofNat 1)) 1) m) (Tr.req (jZ (gH v v) (gH v (Nat.succ v))) (Tr.ok (Ex.normal,Z1,az::az::az::Z2::H)))))))))))))))) (Tr.ok (Ex.exit 2,Z0,az::az::az::Z3::H)))))))))) (Tr.ok (Ex.exit 2,Z0,az::az::az::Z3::H))) { lock:=false,bs:=[(v,ai.row (Row.M [ah.arr .i64 z m]))] })) { lock:=false,bs:=[(v,ai.row (Row.M [ah.arr .i64 (fT (fT z (an 0 j 1) (z (an 0 (bC .i64 j (Int.ofNat 1)) 1))) (an 0 (bC .i64 j (Int.ofNat 1)) 1) (z (an 0 j 1))) m]))] })) [(0,AV.slc 3 0 v 0 1 m (some m),none),(1,AV.int .i64 (Int.ofNat 0),none),(2,AV.int .i64 (Int.ofNat m),none),(6,AV.int .i64 i,none),(7,AV.int .i64 (bC .i64 j (Int.ofNat 1)),none)])) [(0,AV.slc 3 0 v 0 1 m (some m),none),(1,AV.int .i64 (Int.ofNat 0),none),(2,AV.int .i64 (Int.ofNat m),none),(6,AV.int .i64 i,none),(7,AV.int .i64 j,none),(30,AV.bool false,some 1)]:=by kernel_rfl
noncomputable def CW (z:Nat→Int) (j:Nat):Nat→Int:=fT (fT z j (z (j-1))) (j-1) (z j)
noncomputable def lR (z:Nat→Int):Nat→Nat→Int
 | 0=>z
 | j+1=>if z (j+1)<z j then lR (CW z (j+1)) j else z
noncomputable def iF (z:Nat→Int):Nat→Nat→Int
 | 0=>z
 | k+1=>lR (iF z k) (k+1)
section
variable (n:Nat) (H:aa) (p:Int) (mk z:Nat→Int) (s:AV) (v m:Nat)
theorem RO:∀ b,(0,b) ∈ aF (bh Try.f96)→b=.loop (part Try.f96 [1,0,0]):=dw (by kernel_rfl)
theorem Of:∀ b,(2,b) ∈ aF (part Try.f96 [1,0,0])→b=.loop (part Try.f96 [1,0,0,1,0,0,1,0,0]):=dw (by kernel_rfl)
theorem Pq (i:Nat) (hi:i<m) (hm:m≤100):∃ y:ar×aa,exec (bo (n+2) 96 49) (.block 2 (.loop (part Try.f96 [1,0,0,1,0,0,1,0,0]))) (oW v m i i) (az::az::az::fQ p mk z s v m::H)=some (.normal,y)∧∃ j2:Int,y=(oW v m i j2++[(30,.bool false)],az::az::az::fQ p mk (lR z i) s v m::H):=by
 refine FR (n:=n+2) (f:=96) (nt:=49) (c:=part Try.f96 [1,0,0,1,0,0,1,0,0]) 2 (fun k fr G=>∃ (z':Nat→Int) (j:Nat),j+k=i∧fr=oW v m i j∧G=az::az::az::fQ p mk z' s v m::H∧lR z' j=lR z i) _ (i+1) (by omega) ⟨z,i,by omega,rfl,rfl,rfl⟩ (fun k fr G hI=>?_)
 obtain ⟨z',j,h1,rfl,rfl,h2⟩:=hI
 rw[← h2]
 cases j with
 | zero =>
   obtain ⟨x,hx1,hx2⟩:=aC (Q:=fun x=>x=(.exit 2,oW v m i ((0:Nat):Int)++[(30,.bool false)],az::az::az::fQ p mk z' s v m::H)) (K8 n H p mk z' s v m (i:Int) ((0:Nat):Int)) (lJ n 2) (af _ _) (ag _ _) (by
    exact wF)
   exact ⟨x,hx1,.inr (by rw[hx2];exact ⟨rfl,_,rfl⟩)⟩
 | succ j =>
   have es:bC .i64 ((j+1:Nat):Int) (Int.ofNat 1)=(j:Int):=by rw[m8,show Int.ofNat 1=1 from rfl,rz (by omega) (by omega)];omega
   have ed:an 0 ((j+1:Nat):Int) 1=j+1:=by rw[kX];omega
   have ee:an 0 (j:Int) 1=j:=by rw[kX];omega
   have eu:fT (fT z' (j+1) (z' j)) j (z' (j+1))=CW z' (j+1):=rfl
   by_cases hlt:z' (j+1)<z' j
   · obtain ⟨x,hx1,hx2⟩:=aC (Q:=fun x=>x.1=.normal∧tidy 0 x.2.1 x.2.2=(oW v m i (j:Int),az::az::az::fQ p mk (CW z' (j+1)) s v m::H)) (K8 n H p mk z' s v m (i:Int) ((j+1:Nat):Int)) (lJ n 2) (af _ _) (ag _ _) (by
      rw[es,ed,ee,eu]
      exact wF)
     refine ⟨x,hx1,.inl ⟨hx2.1,by omega,CW z' (j+1),j,by omega,?_,?_,?_⟩⟩
     · have:=congrArg Prod.fst hx2.2
       exact this
     · have:=congrArg Prod.snd hx2.2
       exact this
     · show _=(if z' (j+1)<z' j then lR (CW z' (j+1)) j else z')
       rw[if_pos hlt]
   · obtain ⟨x,hx1,hx2⟩:=aC (Q:=fun x=>x=(.exit 2,oW v m i ((j+1:Nat):Int)++[(30,.bool false)],az::az::az::fQ p mk z' s v m::H)) (K8 n H p mk z' s v m (i:Int) ((j+1:Nat):Int)) (lJ n 2) (af _ _) (ag _ _) (by
      rw[es,ed,ee,eu]
      exact wF)
     refine ⟨x,hx1,.inr ?_⟩
     rw[hx2]
     refine ⟨rfl,((j+1:Nat):Int),?_⟩
     rw[show lR z' (j+1)=(if z' (j+1)<z' j then lR (CW z' (j+1)) j else z') from rfl,if_neg hlt]
theorem T8 (h1:1≤m) (hm:m≤100):exec (bo (n+2) 96 49) (.block 0 (.loop (part Try.f96 [1,0,0]))) (wQ v m ((1:Nat):Int)) (az::az::az::fQ p mk z s v m::H)=some (.normal,wQ v m ((m:Nat):Int)++[(12,.bool false)],az::az::az::fQ p mk (iF z (m-1)) s v m::H):=by
 have:=iM (n:=n+2) (f:=96) (nt:=49) (c:=part Try.f96 [1,0,0]) 0 (fun k=>wQ v m ((k+1:Nat):Int)) (fun k=>az::az::az::fQ p mk (iF z k) s v m::H) (m-1) (wQ v m ((m:Nat):Int)++[(12,.bool false)],az::az::az::fQ p mk (iF z (m-1)) s v m::H) (by omega) (fun k hk=>?_) ?_
 · exact this
 · obtain ⟨y,hy,j2,rfl⟩:=Pq n H p mk (iF z k) s v m (k+1) (by omega) hm
   have ej:bu .i64 ((k+1:Nat):Int) (Int.ofNat 1)=((k+1+1:Nat):Int):=by rw[jA,show Int.ofNat 1=1 from rfl];exact rz (by omega) (by omega)
   refine aC (Qf n H p mk (iF z k) (iF z (k+1)) s v m ((k+1:Nat):Int) j2) (lJ n 2) (ay (af _ _) Of (fun x hx=>by rw[← Tr.ab hx];simp only[ot.st,ir];exact hy)) (ag _ _) ?_
   rw[ej]
   exact wF
 · have e:((m-1+1:Nat):Int)=(m:Int):=by omega
   rw[e]
   obtain ⟨x,h1,rfl⟩:=aC (Q:=fun x=>x=(.exit 0,wQ v m ((m:Nat):Int)++[(12,.bool false)],az::az::az::fQ p mk (iF z (m-1)) s v m::H)) (Qe n H p mk (iF z (m-1)) s v m (m:Int)) (lJ n 2) (dK (af _ _) 2) (ag _ _) (by
    exact wF)
   exact h1
theorem Sl (h1:1≤m) (hm:m≤100):cd (n+3) (.fn 96) [.slc 2 0 v 0 1 m (some m),.int .i64 0,.int .i64 (Int.ofNat m)] (az::az::fQ p mk z s v m::H)=some (.tup [],az::az::fQ p mk (iF z (m-1)) s v m::H):=by
 have l:=T8 n H p mk z s v m h1 hm
 have e1:bu .i64 0 1=((1:Nat):Int):=by rw[jA];rfl
 refine aE (n:=n+2) Try.func96 rfl rfl rfl (U6 n H p mk z (iF z (m-1)) s v m ((m:Nat):Int)) (lJ n 2) (ay (af _ _) RO (fun x hx=>by rw[← Tr.ab hx,e1];simp only[ot.st,ir];exact l)) (ag _ _) ?_
 exact wF
theorem Sg (h1:1≤m) (hm:m≤12) (lim:Int):cd (n+4) (.fn 91) [.slc 1 0 v 0 1 m (some m),.int .i64 0,.int .i64 (Int.ofNat m),.int .i64 lim] (az::fQ p mk z s v m::H)=some (.tup [],az::fQ p mk (iF z (m-1)) s v m::H):=by
 refine aE (n:=n+3) Try.func91 rfl rfl rfl (U2 n H p mk z (iF z (m-1)) s v m lim) (yT _ (n+3) 0 (fun k=>fK (aD _) (fun x hx=>?_))) (af _ _) (ag _ _) ?_
 · rw[← Tr.ab hx,show n+3+k=n+k+3 by omega]
   exact Sl (n+k) H p mk z s v m h1 (by omega)
 · exact wF
def pb (x:Nat):Int:=if x<2 then 1 else if x<4 then 2 else if x<8 then 3 else 4
theorem LI (n:Nat) (H:aa):cd (n+3) (.fn 92) [.int .u64 (Int.ofNat 1)] H=some (.int .i64 (pb 1),H):=by kernel_rfl
theorem LJ (n:Nat) (H:aa):cd (n+3) (.fn 92) [.int .u64 (Int.ofNat 2)] H=some (.int .i64 (pb 2),H):=by kernel_rfl
theorem LK (n:Nat) (H:aa):cd (n+3) (.fn 92) [.int .u64 (Int.ofNat 3)] H=some (.int .i64 (pb 3),H):=by kernel_rfl
theorem LL (n:Nat) (H:aa):cd (n+3) (.fn 92) [.int .u64 (Int.ofNat 4)] H=some (.int .i64 (pb 4),H):=by kernel_rfl
theorem LM (n:Nat) (H:aa):cd (n+3) (.fn 92) [.int .u64 (Int.ofNat 5)] H=some (.int .i64 (pb 5),H):=by kernel_rfl
theorem LN (n:Nat) (H:aa):cd (n+3) (.fn 92) [.int .u64 (Int.ofNat 6)] H=some (.int .i64 (pb 6),H):=by kernel_rfl
theorem LO (n:Nat) (H:aa):cd (n+3) (.fn 92) [.int .u64 (Int.ofNat 7)] H=some (.int .i64 (pb 7),H):=by kernel_rfl
theorem LP (n:Nat) (H:aa):cd (n+3) (.fn 92) [.int .u64 (Int.ofNat 8)] H=some (.int .i64 (pb 8),H):=by kernel_rfl
theorem LQ (n:Nat) (H:aa):cd (n+3) (.fn 92) [.int .u64 (Int.ofNat 9)] H=some (.int .i64 (pb 9),H):=by kernel_rfl
theorem JS (n:Nat) (H:aa):cd (n+3) (.fn 92) [.int .u64 (Int.ofNat 10)] H=some (.int .i64 (pb 10),H):=by kernel_rfl
theorem JT (n:Nat) (H:aa):cd (n+3) (.fn 92) [.int .u64 (Int.ofNat 11)] H=some (.int .i64 (pb 11),H):=by kernel_rfl
theorem JU (n:Nat) (H:aa):cd (n+3) (.fn 92) [.int .u64 (Int.ofNat 12)] H=some (.int .i64 (pb 12),H):=by kernel_rfl
theorem Si (x:Nat) (hx:1≤x∧x≤12) (n:Nat) (H:aa):cd (n+3) (.fn 92) [.int .u64 (Int.ofNat x)] H=some (.int .i64 (pb x),H):=by
 have:x=1∨x=2∨x=3∨x=4∨x=5∨x=6∨x=7∨x=8∨x=9∨x=10∨x=11∨x=12:=by omega
 rcases this with rfl | rfl | rfl | rfl | rfl | rfl | rfl | rfl | rfl | rfl | rfl | rfl
 · exact LI n H
 · exact LJ n H
 · exact LK n H
 · exact LL n H
 · exact LM n H
 · exact LN n H
 · exact LO n H
 · exact LP n H
 · exact LQ n H
 · exact JS n H
 · exact JT n H
 · exact JU n H
theorem R5 (h1:1≤m) (hm:m≤12):cd (n+5) (.fn 63) [.slc 0 0 v 0 1 m (some m)] (fQ p mk z s v m::H)=some (.tup [],fQ p mk (iF z (m-1)) s v m::H):=by
 have ew:NR .u64 (Int.ofNat m)=Int.ofNat m:=by
  rw[GJ]
  simp only[IntKind.wrap,IntKind.signed,IntKind.bits]
  simp
  omega
 refine aE (n:=n+4) Try.func63 rfl rfl rfl (UO n H p mk z (iF z (m-1)) s v m (pb m)) (yT _ (n+4) 0 (fun k=>pU (fK (aD _) (fun x hx=>?_)) (fun args p' v' hg hp H=>?_))) (af _ _) (ag _ _) ?_
 · rw[← Tr.ab hx,show n+4+k=n+k+4 by omega]
   exact Sg (n+k) H p mk z s v m h1 hm _
 · unfold Rs at hg
   split at hg
   · simp only[nP] at hg
     obtain ⟨rfl,rfl⟩:=hg
     subst hp
     rw[show n+4+k=n+1+k+3 by omega]
     exact Si m ⟨h1,hm⟩ _ H
   · cases hg
 · rw[ew]
   refine Tr.bg rfl (Tr.bg ⟨rfl,rfl⟩ (Tr.bc ⟨rfl,rfl⟩))
end
end Go.Eng
end
section
namespace Go.Eng
open Go.Proofs
noncomputable def Cu (m:Nat) (o:Nat→Int):aX:=⟨false,[(0,.row (.M [.arr .i64 (dT (fun _=>Int.ofNat 0) 0 o (qu m (dD (Int.ofNat m)))) (dD (Int.ofNat m))]))]⟩
noncomputable def Cv (m:Nat) (y:Nat→Int):aX:=⟨false,[(0,.row (.M [.arr .i64 y (dD (Int.ofNat m))]))]⟩
noncomputable def B6 (l:Nat) (t:Nat→Int) (k:Nat) (d e:Nat→Int) (h:Int) (m:Nat) (o:Nat→Int):ar:=[(8,.ptr 2 1 0 0),(22,.fn (.func 85) [] [.ptrT (some 2) (.G [eN 0 l t k d e]) 0,.ptrT none (.I .i64 [h]) 0]),(23,bU m o false)]
noncomputable def vz (m:Nat) (o:Nat→Int):ar:=[(8,.ptr 2 1 0 0),(9,bU m o false)]
theorem Na (n l k:Nat) (t d e:Nat→Int) (h:Int) (m:Nat) (o:Nat→Int) (L:ie) (L1:aX) (H:aa):aJ (wB n 27 37 2 2) (il aB n 0) aG aH (part Try.f27 [1,1,1,1,0,1,0,0]) (hints (B6 l t k d e h m o)) (az::L1::w7 l t k d L::H) =
 Tr.ok (Ex.normal,[(8,AV.ptr 2 1 0 0,none),(9,AV.slcT none (Row.M [ah.arr .i64 o m]) 1 m false,none)],az::L1::{ lock:=false,bs:=[(0,ai.row (Row.G [AV.slcT none (Row.M [ah.arr .i64 t l]) 1 l false,AV.slcT none (Row.M [ah.arr .i64 d k]) 1 k false])),(0,ai.row (Row.G [AV.nils])),(0,ai.loop L)] } :: H):=by kernel_rfl
theorem M8 (n l k:Nat) (t d:Nat→Int) (m:Nat) (o y:Nat→Int) (L:ie) (L1:aX) (H:aa):aJ (wB n 27 37 2 2) (il (yk aB 63 [.slc 0 0 0 0 1 (dD (Int.ofNat m)) (some (dD (Int.ofNat m)))] (Cu m o::L1::w7 l t k d L::H) (.ok (.tup [],Cv m y::L1::w7 l t k d L::H))) n 0) aG aH (part Try.f27 [1,1,1,1,0,1,0,1]) (hints (vz m o)) (az::L1::w7 l t k d L::H) =
 (fun (Z0:Nat×ai)=>((fun (Z1:aX)=>Tr.req (DW (Int.ofNat m) (Int.ofNat m) 8) (Tr.req (gH (qu m (dD (Int.ofNat m))) m) (Tr.req (gH (bN 0 (qu m (dD (Int.ofNat m)))) m) (Tr.req (b6 0 0) (Tr.req (ga 0 (qu m (dD (Int.ofNat m))) 0 (dD (Int.ofNat m))) (Tr.reqP ([AV.slc 0 0 0 0 1 (dD (Int.ofNat m)) (some (dD (Int.ofNat m)))]=[AV.slc 0 0 0 0 1 (dD (Int.ofNat m)) (some (dD (Int.ofNat m)))]∧Z1::L1::{ lock:=false,bs:=[Z0,(0,ai.row (Row.G [AV.nils])),(0,ai.loop L)] } :: H=Z1::L1::{ lock:=false,bs:=[Z0,(0,ai.row (Row.G [AV.nils])),(0,ai.loop L)] } :: H) (Tr.req (b6 0 0) (Tr.req (ga 0 (dD (Int.ofNat m)) 0 (dD (Int.ofNat m))) (Tr.req (eD 0 1 24) (Tr.req (b6 0 0) (Tr.req (gH 1 1) (Tr.ok (Ex.normal,[],{ lock:=false,bs:=[(0,ai.dead),(0,ai.row (Row.G [AV.slcT none (Row.M [ah.arr .i64 (dC y 0) (dD (Int.ofNat m))]) 1 (dD (Int.ofNat m)) (b6 (dD (Int.ofNat m)) (dD (Int.ofNat m)))])),(0,ai.dead)] } :: L1::{ lock:=false,bs:=[Z0,(0,ai.row (Row.G [AV.slc 0 3 0 0 1 1 none])),(0,ai.loop L),(0,ai.row (Row.F (fun x=>AV.slcT none (Row.M [ah.arr .i64 (dC y 0) (dD (Int.ofNat m))]) 1 (dD (Int.ofNat m)) false) 1))] } :: H))))))))))))) { lock:=false,bs:=[(0,ai.row (Row.M [ah.arr .i64 (dT (fun x=>Int.ofNat 0) 0 o (qu m (dD (Int.ofNat m)))) (dD (Int.ofNat m))]))] })) (0,ai.row (Row.G [AV.slcT none (Row.M [ah.arr .i64 t l]) 1 l false,AV.slcT none (Row.M [ah.arr .i64 d k]) 1 k false])):=by kernel_rfl
theorem Nc (n l k:Nat) (t d e:Nat→Int) (h:Int) (m:Nat) (o:Nat→Int) (L:ie) (v q:Nat) (f:Nat→Nat→Int) (g:Nat→Nat) (L1:aX) (H:aa):aJ (wB n 27 37 2 2) (il aB n 0) aG aH (part Try.f27 [1,1,1,1,0,1,0,0]) (hints (B6 l t k d e h m o)) (az::L1::jG l t k d L v q f g::H) =
 Tr.ok (Ex.normal,[(8,AV.ptr 2 1 0 0,none),(9,AV.slcT none (Row.M [ah.arr .i64 o m]) 1 m false,none)],az::L1::{ lock:=false,bs:=[(0,ai.row (Row.G [AV.slcT none (Row.M [ah.arr .i64 t l]) 1 l false,AV.slcT none (Row.M [ah.arr .i64 d k]) 1 k false])),(0,ai.row (Row.G [AV.slc 0 3 v 0 1 q none])),(0,ai.loop L),(v,ai.row (Row.F (fun j=>AV.slcT none (Row.M [ah.arr .i64 (f j) (g j)]) 1 (g j) false) q))] } :: H):=by kernel_rfl
theorem M9 (n l k:Nat) (t d:Nat→Int) (m:Nat) (o y:Nat→Int) (L:ie) (v q:Nat) (f:Nat→Nat→Int) (g:Nat→Nat) (L1:aX) (H:aa):aJ (wB n 27 37 2 2) (il (yk aB 63 [.slc 0 0 0 0 1 (dD (Int.ofNat m)) (some (dD (Int.ofNat m)))] (Cu m o::L1::jG l t k d L v q f g::H) (.ok (.tup [],Cv m y::L1::jG l t k d L v q f g::H))) n 0) aG aH (part Try.f27 [1,1,1,1,0,1,0,1]) (hints (vz m o)) (az::L1::jG l t k d L v q f g::H) =
 (fun (Z0:aX)=>((fun (Z1:aX)=>Tr.req (DW (Int.ofNat m) (Int.ofNat m) 8) (Tr.req (gH (qu m (dD (Int.ofNat m))) m) (Tr.req (gH (bN 0 (qu m (dD (Int.ofNat m)))) m) (Tr.req (b6 0 0) (Tr.req (ga 0 (qu m (dD (Int.ofNat m))) 0 (dD (Int.ofNat m))) (Tr.reqP ([AV.slc 0 0 0 0 1 (dD (Int.ofNat m)) (some (dD (Int.ofNat m)))]=[AV.slc 0 0 0 0 1 (dD (Int.ofNat m)) (some (dD (Int.ofNat m)))]∧Z1::L1::Z0::H=Z1::L1::Z0::H) (Tr.req (b6 0 0) (Tr.req (ga 0 (dD (Int.ofNat m)) 0 (dD (Int.ofNat m))) (Tr.req (eD q 1 24) (Tr.req (b6 0 0) (Tr.req (gH 1 1) (Tr.req (b6 v v) (Tr.req (b6 (bN 0 q) q) (Tr.reqP (EA (fun j=>AV.slcT none (Row.M [ah.arr .i64 (f (bN 0 j)) (g (bN 0 j))]) 1 (g (bN 0 j)) false) IntKind.i64 1 false) (Tr.ok (Ex.normal,[],{ lock:=false,bs:=[(0,ai.dead),(0,ai.row (Row.G [AV.slcT none (Row.M [ah.arr .i64 (dC y 0) (dD (Int.ofNat m))]) 1 (dD (Int.ofNat m)) (b6 (dD (Int.ofNat m)) (dD (Int.ofNat m)))]))] } :: L1::{ lock:=false,bs:=[(0,ai.row (Row.G [AV.slcT none (Row.M [ah.arr .i64 t l]) 1 l false,AV.slcT none (Row.M [ah.arr .i64 d k]) 1 k false])),(0,ai.row (Row.G [AV.slc 0 3 (Nat.succ v) 0 1 (bN q 1) none])),(0,ai.loop L),(Nat.succ v,ai.row (Row.F (fun j=>AV.slcT none (Row.M [ah.arr .i64 (Is (bV j q) (f (bN 0 j)) (dC y 0)) (Ef (bV j q) (g (bN 0 j)) (dD (Int.ofNat m)))]) 1 (Ef (bV j q) (g (bN 0 j)) (dD (Int.ofNat m))) false) (bN q 1)))] } :: H)))))))))))))))) { lock:=false,bs:=[(0,ai.row (Row.M [ah.arr .i64 (dT (fun x=>Int.ofNat 0) 0 o (qu m (dD (Int.ofNat m)))) (dD (Int.ofNat m))]))] })) { lock:=false,bs:=[(0,ai.row (Row.G [AV.slcT none (Row.M [ah.arr .i64 t l]) 1 l false,AV.slcT none (Row.M [ah.arr .i64 d k]) 1 k false])),(0,ai.row (Row.G [AV.slc 0 3 v 0 1 q none])),(0,ai.loop L),(v,ai.row (Row.F (fun j=>AV.slcT none (Row.M [ah.arr .i64 (f j) (g j)]) 1 (g j) false) q))] }:=by kernel_rfl
noncomputable def zb:Code:=part Try.f27 [1,1,1,1,0,1,0,0]
noncomputable def zc:Code:=part Try.f27 [1,1,1,1,0,1,0,1]
noncomputable def dQ (l:Nat) (t:Nat→Int) (k:Nat) (d e:Nat→Int) (h:Int):ie:={ state:=.ready,pending:=none,fn:=27,nt:=37,fr:=[(8,.ptr 0 1 0 0),(22,.fn (.func 85) [] [.ptrT (some 0) (.G [eN 0 l t k d e]) 0,.ptrT none (.I .i64 [h]) 0])],params:=[23],assign:=zb,body:=zc }
noncomputable def wb (m:Nat) (o:Nat→Int):Nat→Int:=iF (dT (fun _=>Int.ofNat 0) 0 o m) (m-1)
theorem pC (m:Nat):dD (Int.ofNat m)=m:=by rw[mK];rfl
section
variable (n l k:Nat) (t d e:Nat→Int) (h:Int) (m:Nat) (o:Nat→Int) (L1:aX) (H:aa)
theorem LF (G:aa) (h1:1≤m) (hm:m≤12):cd (n+5) (.fn 63) [.slc 0 0 0 0 1 (dD (Int.ofNat m)) (some (dD (Int.ofNat m)))] (Cu m o::G)=some (.tup [],Cv m (wb m o)::G):=by
 have:=R5 n G 0 (fun _=>0) (dT (fun _=>Int.ofNat 0) 0 o m) .undef 0 m h1 hm
 unfold Cu Cv wb
 rw[pC,pj,Nat.min_self]
 exact this
theorem MR (h1:1≤m) (hm:m≤12):cd (n+6) (.round 1 2) [bU m o false] (L1::w7 l t k d (dQ l t k d e h)::H)=some (.bool true,L1::jG l t k d (dQ l t k d e h) 0 1 (fun _=>wb m o) (fun _=>m)::H):=by
 have h1':exec (wB (n+5) 27 37 2 2) zb (B6 l t k d e h m o) (az::L1::w7 l t k d (dQ l t k d e h)::H)=some (.normal,vz m o,az::L1::w7 l t k d (dQ l t k d e h)::H) :=
  pY (Na (n+5) l k t d e h m o (dQ l t k d e h) L1 H) (al _) (af _ _) (ag _ _) (Tr.bc rfl)
 have h2':∃ lv:aX,exec (wB (n+5) 27 37 2 2) zc (vz m o) (az::L1::w7 l t k d ({ dQ l t k d e h with state:=.busy })::H)=some (.normal,[],lv::L1::jG l t k d ({ dQ l t k d e h with state:=.busy }) 0 1 (fun _=>wb m o) (fun _=>m)::H):=by
  refine ⟨⟨false,[(0,.dead),(0,.row (.G [.slcT none (.M [.arr .i64 (wb m o) m]) 1 m (b6 m m)])),(0,.dead)]⟩,pY (M8 (n+5) l k t d m o (wb m o) { dQ l t k d e h with state:=.busy } L1 H) (aM _ (n+5) (fK (aD _) (fun x hx=>by rw[← Tr.ab hx];exact LF n m o _ h1 hm))) (af _ _) (ag _ _) ?_⟩
  generalize dQ l t k d e h=L at *
  generalize wb m o=Y at *
  simp only[pC,c5,xO,xN,bF,gz,Nat.zero_add,Bool.cond_decide,pj,Nat.min_self,and_self]
  exact wF
 obtain ⟨lv,h2'⟩:=h2'
 exact tM (l:=dQ l t k d e h) (l2:={ dQ l t k d e h with state:=.busy }) rfl rfl rfl rfl h1' h2' rfl rfl
theorem MS (v q:Nat) (f:Nat→Nat→Int) (g:Nat→Nat) (h1:1≤m) (hm:m≤12) (hq:q<1000):cd (n+6) (.round 1 2) [bU m o false] (L1::jG l t k d (dQ l t k d e h) v q f g::H)=some (.bool true,L1::jG l t k d (dQ l t k d e h) (v+1) (q+1) (fun j=>if j<q then f j else wb m o) (fun j=>if j<q then g j else m)::H):=by
 have h1':exec (wB (n+5) 27 37 2 2) zb (B6 l t k d e h m o) (az::L1::jG l t k d (dQ l t k d e h) v q f g::H)=some (.normal,vz m o,az::L1::jG l t k d (dQ l t k d e h) v q f g::H) :=
  pY (Nc (n+5) l k t d e h m o (dQ l t k d e h) v q f g L1 H) (al _) (af _ _) (ag _ _) (Tr.bc rfl)
 have h2':∃ lv:aX,exec (wB (n+5) 27 37 2 2) zc (vz m o) (az::L1::jG l t k d ({ dQ l t k d e h with state:=.busy }) v q f g::H)=some (.normal,[],lv::L1::jG l t k d ({ dQ l t k d e h with state:=.busy }) (v+1) (q+1) (fun j=>if j<q then f j else wb m o) (fun j=>if j<q then g j else m)::H):=by
  refine ⟨⟨false,[(0,.dead),(0,.row (.G [.slcT none (.M [.arr .i64 (wb m o) m]) 1 m (b6 m m)]))]⟩,pY (M9 (n+5) l k t d m o (wb m o) { dQ l t k d e h with state:=.busy } v q f g L1 H) (aM _ (n+5) (fK (aD _) (fun x hx=>by rw[← Tr.ab hx];exact LF n m o _ h1 hm))) (af _ _) (ag _ _) ?_⟩
  generalize dQ l t k d e h=L at *
  generalize wb m o=Y at *
  simp only[pC,c5,xO,xN,bF,gz,Nat.zero_add,Bool.cond_decide,pj,Nat.min_self,and_self]
  have ha:EA (fun j=>.slcT none (.M [.arr .i64 (f j) (g j)]) 1 (g j) false) .i64 1 false:=by rw[BN];exact fun j=>⟨_,_,_,rfl⟩
  repeat' first | (refine Tr.bk (fun hc=>?_) (fun hc=>?_)<;>(try simp (disch:=omega) only[nV,nW,ha] at hc)<;>try omega) | (refine Tr.cC ?_ ?_;· (try simp (disch:=omega) only[nV,nW,ha]);try omega) | (refine Tr.bg ?_ ?_;· first | exact trivial | rfl | exact ⟨rfl,rfl⟩ | exact ⟨rfl,rfl,rfl⟩ | (simp (disch:=omega) only[nV,nW,ha];done) | ((try simp (disch:=omega) only[nV,nW,ha]);omega)) | fail
  all_goals first
   | exact Tr.bc rfl
   | fail
 obtain ⟨lv,h2'⟩:=h2'
 exact tM (l:=dQ l t k d e h) (l2:={ dQ l t k d e h with state:=.busy }) rfl rfl rfl rfl h1' h2' rfl rfl
end
end Go.Eng
end
section
namespace Go.Eng
open Go.Proofs
noncomputable def FU (l:Nat) (t:Nat→Int) (k:Nat) (d:Nat→Int):aX:=⟨false,[(0,.row (.G [bU l t false,bU k d false])),(0,.row (.G [.nils]))]⟩
noncomputable def Ja (l:Nat) (t:Nat→Int) (k:Nat) (d:Nat→Int) (v m:Nat) (f:Nat→Nat→Int) (g:Nat→Nat):aX:=⟨false,[(0,.row (.G [bU l t false,bU k d false])),(0,.row (.G [.slc 0 3 v 0 1 m none])),(0,.dead),(v,.row (.F (fun j=>bU (g j) (f j) false) m))]⟩
noncomputable def yA (l:Nat) (t:Nat→Int) (k:Nat) (d e:Nat→Int) (h:Int):ar:=[(8,.ptr 0 1 0 0),(22,.fn (.func 85) [] [.ptrT (some 0) (.G [eN 0 l t k d e]) 0,.ptrT none (.I .i64 [h]) 0])]
theorem UN (n s l k:Nat) (t d g:Nat→Int) (h:Int) (H:aa):aT Try.prog (cd n) 100000 62 Try.f62 (KtL.kt 62) (il aB n 0) aG aH [(eN s l t k d g,none),(.int .i64 h,none)] H =
 Tr.ok ((AV.fn (Fn.func 85) [] [AV.ptrT (some 0) (Row.G [AV.ptrT (some s) (Row.M [ah.one (AV.slcT none (Row.M [ah.arr .i64 t l]) 1 l false),ah.one (AV.slcT none (Row.M [ah.arr .i64 d k]) 1 k false),ah.arr .i64 g 30]) 0]) 0,AV.ptrT none (Row.I .i64 [h]) 0],none),H):=by kernel_rfl
theorem Uv (n l k:Nat) (t d e:Nat→Int) (h:Int) (v m:Nat) (f:Nat→Nat→Int) (g:Nat→Nat) (H:aa):aT Try.prog (cd n) 100000 27 Try.f27 (KtL.kt 27) (il (tX (tX aB 61 [bw l t k d,.int .i64 h,.int .i64 0] (.tup [eN 0 l t k d e,.int .i64 0])) 62 [eN 0 l t k d e,.int .i64 h] (.fn (.func 85) [] [.ptrT (some 0) (.G [eN 0 l t k d e]) 0,.ptrT none (.I .i64 [h]) 0])) n 0) aG (Lq aH (fun _=>true) (yA l t k d e h) (FU l t k d::H) (.ok (.normal,hints (yA l t k d e h),Ja l t k d v m f g::H))) [(bw l t k d,none),(.int .i64 h,none)] H =
 (fun (Z0:Row)=>((fun (Z1:Row)=>((fun (Z2:ar)=>Tr.reqP ([AV.agg Z1,AV.int .i64 h,AV.int .i64 (Int.ofNat 0)]=[AV.agg Z1,AV.int .i64 h,AV.int .i64 (Int.ofNat 0)]) (Tr.ite (aQ (cw (Int.ofNat 0) (Int.ofNat 0))) (Tr.ok ((AV.tup [AV.nils,AV.int .i64 (Int.ofNat 0)],none),H)) (Tr.reqP ([AV.ptrT (some 0) Z0 0,AV.int .i64 h]=[AV.ptrT (some 0) Z0 0,AV.int .i64 h]) (Tr.reqP (Z2=Z2∧{ lock:=false,bs:=[(0,ai.row Z1),(0,ai.row (Row.G [AV.nils]))] } :: H={ lock:=false,bs:=[(0,ai.row Z1),(0,ai.row (Row.G [AV.nils]))] } :: H) (Tr.req (b6 v v) (Tr.req (ga 0 m 0 m) (Tr.ok ((AV.tup [AV.slcT none (Row.F (fun j=>AV.slcT none (Row.M [ah.arr .i64 (f (bN 0 j)) (g (bN 0 j))]) 1 (g (bN 0 j)) false) m) 1 m false,AV.int .i64 (Int.ofNat 0)],none),H)))))))) [(8,AV.ptr 0 1 0 0),(22,AV.fn (Fn.func 85) [] [AV.ptrT (some 0) (Row.G [AV.ptrT (some 0) Z0 0]) 0,AV.ptrT none (Row.I .i64 [h]) 0])])) (Row.G [AV.slcT none (Row.M [ah.arr .i64 t l]) 1 l false,AV.slcT none (Row.M [ah.arr .i64 d k]) 1 k false]))) (Row.M [ah.one (AV.slcT none (Row.M [ah.arr .i64 t l]) 1 l false),ah.one (AV.slcT none (Row.M [ah.arr .i64 d k]) 1 k false),ah.arr .i64 e 30]):=by kernel_rfl
theorem Qs (n l k:Nat) (t d:Nat→Int) (h c:Int) (H:aa):aT Try.prog (cd n) 100000 27 Try.f27 (KtL.kt 27) (il (tX aB 61 [bw l t k d,.int .i64 h,.int .i64 0] (.tup [.nilp,.int .i64 c])) n 0) aG (Lq aH (fun _=>true) [] [] .bad) [(bw l t k d,none),(.int .i64 h,none)] H =
 (fun (Z0:List AV)=>Tr.reqP (Z0=Z0) (Tr.ite (aQ (cw c (Int.ofNat 0))) (Tr.ok ((AV.tup [AV.nils,AV.int .i64 c],none),H)) Tr.bad)) [AV.agg (Row.G [AV.slcT none (Row.M [ah.arr .i64 t l]) 1 l false,AV.slcT none (Row.M [ah.arr .i64 d k]) 1 k false]),AV.int .i64 h,AV.int .i64 (Int.ofNat 0)]:=by kernel_rfl
end Go.Eng
end
section
namespace Go.Eng
open Go.Proofs
theorem R4 (n s l k:Nat) (t d g:Nat→Int) (h:Int) (H:aa):cd (n+1) (.fn 62) [eN s l t k d g,.int .i64 h] H=some (.fn (.func 85) [] [.ptrT (some 0) (.G [eN s l t k d g]) 0,.ptrT none (.I .i64 [h]) 0],H):=by
 refine aE (n:=n) Try.func62 rfl rfl rfl (UN n s l k t d g h H) (al _) (af _ _) (ag _ _) ?_
 exact wF
noncomputable def gP (l k:Nat) (t d:Nat→Int) (h:Int) (m j:Nat):Nat:=(r6 l k t d h (min j m)).length
noncomputable def fP (l k:Nat) (t d:Nat→Int) (h:Int) (m j:Nat):Nat→Int:=wb (gP l k t d h m j) (au (r6 l k t d h (min j m)))
theorem Hq (l k:Nat) (t d:Nat→Int) (h:Int) (m:Nat):(fun j=>if j<m+1 then gP l k t d h m j else (r6 l k t d h (m+1)).length)=gP l k t d h (m+1):=by
 funext j
 unfold gP
 by_cases c:j<m+1
 · rw[if_pos c,show min j m=j by omega,show min j (m+1)=j by omega]
 · rw[if_neg c,show min j (m+1)=m+1 by omega]
theorem Hl (l k:Nat) (t d:Nat→Int) (h:Int) (m:Nat):(fun j=>if j<m+1 then fP l k t d h m j else wb (r6 l k t d h (m+1)).length (au (r6 l k t d h (m+1))))=fP l k t d h (m+1):=by
 funext j
 unfold fP gP
 by_cases c:j<m+1
 · rw[if_pos c,show min j m=j by omega,show min j (m+1)=j by omega]
 · rw[if_neg c,show min j (m+1)=m+1 by omega]
section
variable (n l k:Nat) (t d:Nat→Int) (h:Int) (H:aa)
theorem Bw (hs:Sh l t k d) (hc:cg l t d h=true) (hh:1≤h∧h≤10) (m:Nat) (hm:m<cV l t d h):1≤(r6 l k t d h m).length∧(r6 l k t d h m).length≤h.toNat:=by
 have e:h=(h.toNat:Int):=by omega
 obtain ⟨M,a,b,c,f⟩:=Gz (H:=h.toNat) (z:=zP l t k d (cV l t d h:Nat)) (f0:=bR (cZ t l)) hs.l30 hs.tl (by omega) (fun i hi=>by
  rw[oQ hs i hi]
  have:=oD (fun x=>decide (t x=(i:Int))) l
  have:=hs.l30
  omega)
 have hM:=wi hs hc e a b c
 obtain ⟨P,p1,p2⟩:=f m (by omega)
 obtain ⟨q,a1,a2,a3,a4,a5,a6,_⟩:=GH (z:=zP l t k d (cV l t d h:Nat)) hs.l30 hs.tl (show 0<h.toNat by omega) (b m (by omega)) p2
 unfold r6 KW
 rw[a5,a6]
 omega
noncomputable def J9 (l k:Nat) (t d:Nat→Int) (h:Int) (H:aa):Nat→aa
 | 0=>w7 l t k d (dQ l t k d (cZ t l) h)::H
 | m+1=>jG l t k d (dQ l t k d (cZ t l) h) m (m+1) (fP l k t d h m) (gP l k t d h m)::H
theorem U9 (hs:Sh l t k d) (hc:cg l t d h=true) (hh:1≤h∧h≤10) (T:Nat) (hT:cV l t d h=T+1):exec (bo (n+7) 27 37) (.rangeFunc (.tmp 22) #[23] zb zc) (yA l t k d (cZ t l) h) (FU l t k d::H)=some (.normal,yA l t k d (cZ t l) h,Ja l t k d T (T+1) (fP l k t d h T) (gP l k t d h T)::H):=by
 have hy:∀ m,m<cV l t d h→∀ L:aX,L.lock=false→cd (n+1+5) (.round 1 2) [bU (r6 l k t d h m).length (au (r6 l k t d h m)) false] (L::J9 l k t d h H m)=some (.bool true,L::J9 l k t d h H (m+1)):=fun m hm L _=>by
  obtain ⟨r1,r2⟩:=Bw l k t d h hs hc hh m hm
  have htr:=(lC hs hc).2.2
  cases m with
  | zero =>
    have:=MR n l k t d (cZ t l) h (r6 l k t d h 0).length (au (r6 l k t d h 0)) L H r1 (by omega)
    have e1:gP l k t d h 0=fun _=>(r6 l k t d h 0).length:=by funext j;unfold gP;rw[Nat.min_zero]
    have e2:fP l k t d h 0=fun _=>wb (r6 l k t d h 0).length (au (r6 l k t d h 0)):=by funext j;unfold fP gP;rw[Nat.min_zero]
    show _=some (_,L::jG l t k d (dQ l t k d (cZ t l) h) 0 1 (fP l k t d h 0) (gP l k t d h 0)::H)
    rw[e1,e2]
    exact this
  | succ m =>
    have:=MS n l k t d (cZ t l) h (r6 l k t d h (m+1)).length (au (r6 l k t d h (m+1))) L H m (m+1) (fP l k t d h m) (gP l k t d h m) r1 (by omega) (by omega)
    rw[Hq,Hl] at this
    exact this
 have hcall:=Oq (n+1) 0 l k t d h (J9 l k t d h H) hs hc hh hy
 rw[hT] at hcall
 exact zY (cx:=bo (n+7) 27 37) (l:=dQ l t k d (cZ t l) h) (f:=.tmp 22) (ps:=#[23]) (fr:=yA l t k d (cZ t l) h) (H:=FU l t k d::H) (g:=85) (a:=[]) (b:=[.ptrT (some 0) (.G [eN 0 l t k d (cZ t l)]) 0,.ptrT none (.I .i64 [h]) 0]) rfl rfl rfl hcall rfl rfl rfl
theorem Um:eC (bh Try.f27)=[(.tmp 22,#[23],zb,zc)]:=by kernel_rfl
noncomputable def KM (l k:Nat) (t d:Nat→Int) (h:Int):AV:=if dr l k t d h=0 then .tup [cA (cV l t d h) (fP l k t d h (cV l t d h-1)) (gP l k t d h (cV l t d h-1)),.int .i64 0] else .tup [.nils,.int .i64 (dr l k t d h)]
theorem RU:cd (n+12) (.fn 27) [bw l t k d,.int .i64 h] H=some (KM l k t d h,H):=by
 unfold KM
 by_cases e:dr l k t d h=0
 · rw[if_pos e]
   obtain ⟨e1,e2⟩:=rX e
   obtain ⟨hs,h1,h2⟩:=lY e1
   obtain ⟨_,b,_⟩:=lC hs e2
   obtain ⟨T,hT⟩:∃ T,cV l t d h=T+1:=⟨cV l t d h-1,by omega⟩
   have hx:=U9 (n+4) l k t d h H hs e2 ⟨h1,h2⟩ T hT
   rw[hT,Nat.add_sub_cancel]
   refine aE (n:=n+11) Try.func27 rfl rfl rfl (Uv (n+11) l k t d (cZ t l) h T (T+1) (fP l k t d h T) (gP l k t d h T) H) (aM _ (n+11) (aP (aP (aD _) (fun H=>Ol n l k t d H h e)) (fun H=>R4 (n+10) 0 l k t d (cZ t l) h H))) (af _ _) (xF (ag _ _) (fun f ps a b _ hm x hx2=>by
    rw[Um] at hm
    simp only[List.mem_cons,Prod.mk.injEq,List.not_mem_nil,or_false] at hm
    obtain ⟨rfl,rfl,rfl,rfl⟩:=hm
    rw[← Tr.ab hx2];exact hx)) ?_
   show Tr.all _ _
   simp only[bF,Nat.zero_add]
   generalize fP l k t d h T=A at *
   generalize gP l k t d h T=B at *
   exact wF
 · rw[if_neg e]
   refine aE (n:=n+11) Try.func27 rfl rfl rfl (Qs (n+11) l k t d h (dr l k t d h) H) (aM _ (n+11) (aP (aD _) (fun H=>Oj n l k t d H h e))) (af _ _) (xF (ag _ _) (fun f ps a b _ hm x hx2=>(Tr.ae hx2).elim)) ?_
   generalize dr l k t d h=N at *
   exact wF
end
end Go.Eng
end
section
namespace Go.Eng
open Go.Proofs
noncomputable def ld (l:Nat) (t:Nat→Int) (k:Nat) (d z:Nat→Int):aX:=⟨false,[Dq l t k d,(0,.row (.M [.arr .i64 z l]))]⟩
noncomputable def DJ (l m:Nat) (f:Nat→Nat→Int) (g:Nat→Nat) (c i:Int):ar:=[(1,cA m f g),(2,.ptr 0 0 0 0),(6,.slc 0 1 0 0 1 l (some l)),(7,.int .i64 c),(8,.int .i64 i)]
noncomputable def qQ (l m:Nat) (f:Nat→Nat→Int) (g:Nat→Nat) (c i j:Int):ar:=[(1,cA m f g),(2,.ptr 0 0 0 0),(6,.slc 0 1 0 0 1 l (some l)),(7,.int .i64 c),(8,.int .i64 i),(9,.int .i64 j)]
theorem Nh (n l k:Nat) (t d z:Nat→Int) (m:Nat) (f:Nat→Nat→Int) (g:Nat→Nat) (c i j x:Int) (b:Bool) (H:aa):aJ (bo n 47 64) (il (tX aB 59 [bw l t k d,.int .i64 (f (an 0 i 1) (an 0 j 1))] (.bool b)) n 0) aG aH (part Try.f47 [1,1,1,1,0,1,0,0,1,0,0,1,0,0]) (hints (qQ l m f g c i j)) (ld l t k d z::H) =
 (fun (Z0:Row)=>((fun (Z1:aX)=>((fun (Z2:Nat×AV×Option Nat)=>Tr.req (b8 i m) (Tr.req (bV (an 0 i 1) m) (Tr.ite (bT j (Int.ofNat (g (an 0 i 1)))) (Tr.req (b8 i m) (Tr.req (bV (an 0 i 1) m) (Tr.req (b8 j (g (an 0 i 1))) (Tr.req (bV (an 0 j 1) (g (an 0 i 1))) (Tr.reqP ([AV.agg Z0,AV.int .i64 (f (an 0 i 1) (an 0 j 1))]=[AV.agg Z0,AV.int .i64 (f (an 0 i 1) (an 0 j 1))]) (Tr.ite (aQ b) (Tr.ok (Ex.ret,[(4,AV.nils,none),(5,AV.int .i64 (Int.ofNat 15),some 1)],Z1::H)) (Tr.req (b8 (f (an 0 i 1) (an 0 j 1)) l) (Tr.req (b6 0 0) (Tr.req (bV (an 0 (f (an 0 i 1) (an 0 j 1)) 1) l) (Tr.ite (aQ (cw (z (an 0 (f (an 0 i 1) (an 0 j 1)) 1)) (Int.ofNat 0))) (Tr.ok (Ex.ret,[(4,AV.nils,none),(5,AV.int .i64 (Int.ofNat 15),some 1)],Z1::H)) (Tr.req (b8 (f (an 0 i 1) (an 0 j 1)) l) (Tr.req (b6 0 0) (Tr.req (bV (an 0 (f (an 0 i 1) (an 0 j 1)) 1) l) (Tr.ok (Ex.normal,[Z2,(2,AV.ptr 0 0 0 0,none),(6,AV.slc 0 1 0 0 1 l (some l),none),(7,AV.int .i64 (bu .i64 c (Int.ofNat 1)),none),(8,AV.int .i64 i,none),(9,AV.int .i64 (bu .i64 j (Int.ofNat 1)),none)],{ lock:=false,bs:=[(0,ai.row Z0),(0,ai.row (Row.M [ah.arr .i64 (fT z (an 0 (f (an 0 i 1) (an 0 j 1)) 1) (bu .i64 i (Int.ofNat 1))) l]))] } :: H))))))))))))))) (Tr.ok (Ex.exit 2,[Z2,(2,AV.ptr 0 0 0 0,none),(6,AV.slc 0 1 0 0 1 l (some l),none),(7,AV.int .i64 c,none),(8,AV.int .i64 i,none),(9,AV.int .i64 j,none),(30,AV.bool false,some 1)],Z1::H))))) (1,AV.slcT none (Row.F (fun j=>AV.slcT none (Row.M [ah.arr .i64 (f j) (g j)]) 1 (g j) false) m) 1 m false,none))) { lock:=false,bs:=[(0,ai.row Z0),(0,ai.row (Row.M [ah.arr .i64 z l]))] })) (Row.G [AV.slcT none (Row.M [ah.arr .i64 t l]) 1 l false,AV.slcT none (Row.M [ah.arr .i64 d k]) 1 k false]):=by kernel_rfl
theorem PY (n l k:Nat) (t d z:Nat→Int) (m:Nat) (f:Nat→Nat→Int) (g:Nat→Nat) (c i:Int) (H:aa):aJ (bo n 47 64) (il aB n 0) (bG aG 2 [] [] .bad) aH (part Try.f47 [1,1,1,1,0,1,0,0]) (hints (DJ l m f g c i)) (ld l t k d z::H) =
 (fun (Z0:aX)=>((fun (Z1:Row)=>Tr.ite (bT i (Int.ofNat m)) (Tr.reqP ([(1,AV.slcT none Z1 1 m false),(2,AV.ptr 0 0 0 0),(6,AV.slc 0 1 0 0 1 l (some l)),(7,AV.int .i64 c),(8,AV.int .i64 i),(9,AV.int .i64 (Int.ofNat 0))]=[]∧Z0::H=[]) Tr.bad) (Tr.ok (Ex.exit 0,[(1,AV.slcT none Z1 1 m false,none),(2,AV.ptr 0 0 0 0,none),(6,AV.slc 0 1 0 0 1 l (some l),none),(7,AV.int .i64 c,none),(8,AV.int .i64 i,none),(21,AV.bool false,some 1)],Z0::H))) (Row.F (fun j=>AV.slcT none (Row.M [ah.arr .i64 (f j) (g j)]) 1 (g j) false) m))) { lock:=false,bs:=[(0,ai.row (Row.G [AV.slcT none (Row.M [ah.arr .i64 t l]) 1 l false,AV.slcT none (Row.M [ah.arr .i64 d k]) 1 k false])),(0,ai.row (Row.M [ah.arr .i64 z l]))] }:=by kernel_rfl
theorem UA (n l k:Nat) (t d:Nat→Int) (m:Nat) (f:Nat→Nat→Int) (g:Nat→Nat) (H:aa):aT Try.prog (cd n) 100000 47 Try.f47 (KtL.kt 47) (il aB n 0) (bG aG 0 [] [] .bad) aH [(bw l t k d,none),(cA m f g,none)] H =
 Tr.ite (bT (Int.ofNat 40) (Int.ofNat m)) (Tr.ok ((AV.tup [AV.nils,AV.int .i64 (Int.ofNat 6)],none),H)) (Tr.req (DW (Int.ofNat l) (Int.ofNat l) 8) (Tr.reqP ([(1,AV.slcT none (Row.F (fun j=>AV.slcT none (Row.M [ah.arr .i64 (f j) (g j)]) 1 (g j) false) m) 1 m false),(2,AV.ptr 0 0 0 0),(6,AV.slc 0 1 0 0 1 (dD (Int.ofNat l)) (some (dD (Int.ofNat l)))),(7,AV.int .i64 (Int.ofNat 0)),(8,AV.int .i64 (Int.ofNat 0))]=[]∧{ lock:=false,bs:=[(0,ai.row (Row.G [AV.slcT none (Row.M [ah.arr .i64 t l]) 1 l false,AV.slcT none (Row.M [ah.arr .i64 d k]) 1 k false])),(0,ai.row (Row.M [ah.arr .i64 (fun x=>Int.ofNat 0) (dD (Int.ofNat l))]))] } :: H=[]) Tr.bad)):=by kernel_rfl
def nq (l:Nat) (z:Nat→Int) (c:Int):Bool:=!(decide (0≤c) && decide (c<l)) || decide (z c.toNat≠0)
def fm (o:Nat→Int) (T:Int) (z:Nat→Int):Nat→Nat→Int
 | 0=>z
 | j+1=>uI (fm o T z j) (o j).toNat T
section
variable (n l k:Nat) (t d z:Nat→Int) (m:Nat) (f:Nat→Nat→Int) (g:Nat→Nat) (H:aa)
theorem Pd (C i:Nat) (hi:i<m) (hm:m≤40) (hg:g i<1000) (hC:C<100000):exec (bo (n+1) 47 64) (.block 2 (.loop (part Try.f47 [1,1,1,1,0,1,0,0,1,0,0,1,0,0]))) (qQ l m f g (C:Nat) (i:Nat) ((0:Nat):Int)) (ld l t k d z::H)=some (cond (bX (fun j=>nq l (fm (f i) ((i+1:Nat):Int) z j) (f i j)) (g i)) (.ret,[(4,.nils),(5,.int .i64 15)],ld l t k d (fm (f i) ((i+1:Nat):Int) z (fN (fun j=>nq l (fm (f i) ((i+1:Nat):Int) z j) (f i j)) (g i) 0))::H) (.normal,qQ l m f g ((C+g i:Nat):Int) (i:Nat) (Int.ofNat (g i))++[(30,.bool false)],ld l t k d (fm (f i) ((i+1:Nat):Int) z (g i))::H)):=by
 refine gJ (n:=n+1) (f:=47) (nt:=64) (c:=part Try.f47 [1,1,1,1,0,1,0,0,1,0,0,1,0,0]) 2 (fun j=>qQ l m f g ((C+j:Nat):Int) (i:Nat) (j:Nat)) (fun j=>ld l t k d (fm (f i) ((i+1:Nat):Int) z j)::H) (g i) (fun j=>nq l (fm (f i) ((i+1:Nat):Int) z j) (f i j)) (fun j=>([(4,.nils),(5,.int .i64 15)],ld l t k d (fm (f i) ((i+1:Nat):Int) z j)::H)) _ (by omega) (fun j hj=>?_) ?_
 · refine aC (Nh (n+1) l k t d (fm (f i) ((i+1:Nat):Int) z j) m f g ((C+j:Nat):Int) (i:Nat) (j:Nat) 0 (decide (0≤f (an 0 ((i:Nat):Int) 1) (an 0 ((j:Nat):Int) 1)) && decide (f (an 0 ((i:Nat):Int) 1) (an 0 ((j:Nat):Int) 1)<l)) H) (aM _ (n+1) (aP (aD _) (fun H=>Ri n l k t d H _))) (af _ _) (ag _ _) ?_
   show Tr.all _ (fun r=>if nq l (fm (f i) ((i+1:Nat):Int) z j) (f i j)=true then _ else _∧tidy _ _ _=(qQ l m f g ((C+(j+1):Nat):Int) (i:Nat) ((j+1:Nat):Int),ld l t k d (uI (fm (f i) ((i+1:Nat):Int) z j) (f i j).toNat ((i+1:Nat):Int))::H))
   rw[cK (j:=j) (by omega),cK (j:=i) (by omega),cK (j:=C+j) (by omega)]
   simp only[gK]
   generalize fm (f i) ((i+1:Nat):Int) z j=Z at *
   by_cases hr:0≤f i j∧f i j<l
   · obtain ⟨c,hc⟩:∃ c:Nat,f i j=c:=⟨(f i j).toNat,by omega⟩
     rw[hc] at hr ⊢
     have e1:(decide (0≤(c:Int)) && decide ((c:Int)<l))=true:=by rw[decide_eq_true hr.1,decide_eq_true hr.2];rfl
     rw[Int.toNat_natCast]
     simp only[gK,e1,ug]
     by_cases h0:Z c=0
     · have eb:nq l Z (c:Int)=false:=by unfold nq;rw[e1,Int.toNat_natCast,decide_eq_false (by simpa using h0)];rfl
       rw[eb]
       simp only[Bool.false_eq_true,if_false]
       generalize uI Z c ((i+1:Nat):Int)=Z2 at *
       exact wF
     · have eb:nq l Z (c:Int)=true:=by unfold nq;rw[e1,Int.toNat_natCast,decide_eq_true h0];rfl
       rw[eb]
       simp only[if_true]
       exact wF
   · have e1:(decide (0≤f i j) && decide (f i j<l))=false:=by
      cases hx:(decide (0≤f i j) && decide (f i j<l)) with
      | false=>rfl
      | true =>
        simp only[Bool.and_eq_true,decide_eq_true_eq] at hx
        exact absurd hx hr
     have eb:nq l Z (f i j)=true:=by unfold nq;rw[e1];rfl
     rw[e1,eb]
     simp only[if_true]
     exact wF
 · have hz:∃ Z,Z=fm (f i) ((i+1:Nat):Int) z (g i):=⟨_,rfl⟩
   obtain ⟨Z,hZ⟩:=hz
   have hG:∃ q,q=g i:=⟨_,rfl⟩
   obtain ⟨q,hq⟩:=hG
   obtain ⟨x,hx,rfl⟩:=aC (Q:=fun x=>x=(.exit 2,qQ l m f g ((C+q:Nat):Int) (i:Nat) (Int.ofNat q)++[(30,.bool false)],ld l t k d Z::H)) (Nh (n+1) l k t d Z m f g ((C+q:Nat):Int) (i:Nat) (Int.ofNat q) 0 (decide (0≤f (an 0 ((i:Nat):Int) 1) (an 0 (Int.ofNat q) 1)) && decide (f (an 0 ((i:Nat):Int) 1) (an 0 (Int.ofNat q) 1)<l)) H) (aM _ (n+1) (aP (aD _) (fun H=>Ri n l k t d H _))) (af _ _) (ag _ _) (by
    have e1:bT (Int.ofNat q) (Int.ofNat (g i))=false:=by rw[dj,hq];simp
    simp only[gK,e1]
    exact wF
    )
   rw[← hq] at hZ ⊢
   rw[← hZ]
   exact hx
end
end Go.Eng
end
