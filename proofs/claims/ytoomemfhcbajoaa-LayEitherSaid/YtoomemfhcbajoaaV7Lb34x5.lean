/- Lay: the sort of at most twelve numbers in a row of the caller (turned from drop's Ki). -/
import Derived.Test.YtoomemfhcbajoaaV7Lp9x7
set_option linter.unusedVariables false
set_option linter.unusedSimpArgs false
set_option maxRecDepth 100000
section
namespace Go.Eng
open Go.Proofs
def QL (x l:Int):List AV→Option (Prop×AV)
 | [.int .u64 y]=>some (y=x,.int .i64 l)
 | _=>none
noncomputable def fK (p:Int) (mk z:Nat→Int) (s:AV) (v m:Nat):aV:=⟨false,[(v,.row (.M [.arr .i64 z m]))]⟩
noncomputable def wP (v m:Nat) (i:Int):ao:=[(0,.slc 3 0 v 0 1 m (some m)),(1,.int .i64 0),(2,.int .i64 (Int.ofNat m)),(6,.int .i64 i)]
noncomputable def oY (v m:Nat) (i j:Int):ao:=[(0,.slc 3 0 v 0 1 m (some m)),(1,.int .i64 0),(2,.int .i64 (Int.ofNat m)),(6,.int .i64 i),(7,.int .i64 j)]
theorem TZ (n:Nat) (H:aa) (p:Int) (mk z z2:Nat→Int) (s:AV) (v m:Nat) (lim:Int):aX Try.prog (cd (n+4)) 100000 63 Try.f63 (KtL.kt 63) (il (uw (ye aD 91 [.slc 1 0 v 0 1 m (some m),.int .i64 0,.int .i64 (Int.ofNat m),.int .i64 lim] (aw::fK p mk z s v m::H) (.ok (.tup [],aw::fK p mk z2 s v m::H))) 92 (QL (Int.ofNat m) lim)) (n+4) 0) aK aL [(.slc 0 0 v 0 1 m (some m),none)] (fK p mk z s v m::H) =
 (fun (Z0:List AV)=>Tr.reqP (Ar IntKind.u64 (Int.ofNat m)=Int.ofNat m) (Tr.reqP (Z0=Z0∧aw::{ lock:=false,bs:=[(v,aj.row (Row.M [ah.arr .i64 z m]))] } :: H=aw::{ lock:=false,bs:=[(v,aj.row (Row.M [ah.arr .i64 z m]))] } :: H) (Tr.ok ((AV.tup [],none),{ lock:=false,bs:=[(v,aj.row (Row.M [ah.arr .i64 z2 m]))] } :: H)))) [AV.slc 1 0 v 0 1 m (some m),AV.int .i64 (Int.ofNat 0),AV.int .i64 (Int.ofNat m),AV.int .i64 lim]:=by kernel_rfl
theorem Ue (n:Nat) (H:aa) (p:Int) (mk z z2:Nat→Int) (s:AV) (v m:Nat) (lim:Int):aX Try.prog (cd (n+3)) 100000 91 Try.f91 (KtL.kt 91) (il (ye aD 96 [.slc 2 0 v 0 1 m (some m),.int .i64 0,.int .i64 (Int.ofNat m)] (aw::aw::fK p mk z s v m::H) (.ok (.tup [],aw::aw::fK p mk z2 s v m::H))) (n+3) 0) aK aL [(.slc 1 0 v 0 1 m (some m),none),(.int .i64 0,none),(.int .i64 (Int.ofNat m),none),(.int .i64 lim,none)] (aw::fK p mk z s v m::H) =
 Tr.ite (lM (bC .i64 (Int.ofNat m) (Int.ofNat 0)) (Int.ofNat 12)) (Tr.reqP ([AV.slc 2 0 v 0 1 m (some m),AV.int .i64 (Int.ofNat 0),AV.int .i64 (Int.ofNat m)]=[AV.slc 2 0 v 0 1 m (some m),AV.int .i64 (Int.ofNat 0),AV.int .i64 (Int.ofNat m)]∧aw::aw::{ lock:=false,bs:=[(v,aj.row (Row.M [ah.arr .i64 z m]))] } :: H=aw::aw::{ lock:=false,bs:=[(v,aj.row (Row.M [ah.arr .i64 z m]))] } :: H) (Tr.ok ((AV.tup [],none),aw::{ lock:=false,bs:=[(v,aj.row (Row.M [ah.arr .i64 z2 m]))] } :: H))) (Tr.ite (cI lim (Int.ofNat 0)) Tr.bad Tr.bad):=by kernel_rfl
theorem Ui (n:Nat) (H:aa) (p:Int) (mk z z2:Nat→Int) (s:AV) (v m:Nat) (i2:Int):aX Try.prog (cd (n+2)) 100000 96 Try.f96 (KtL.kt 96) (il aD n 2) (bX aK 0 (wP v m (bG .i64 0 1)) (aw::aw::aw::fK p mk z s v m::H) (.ok (.normal,hints (wP v m i2++[(12,.bool false)]),aw::aw::aw::fK p mk z2 s v m::H))) aL [(.slc 2 0 v 0 1 m (some m),none),(.int .i64 0,none),(.int .i64 (Int.ofNat m),none)] (aw::aw::fK p mk z s v m::H) =
 (fun (Z0:ao)=>Tr.reqP (Z0=Z0∧aw::aw::aw::{ lock:=false,bs:=[(v,aj.row (Row.M [ah.arr .i64 z m]))] } :: H=aw::aw::aw::{ lock:=false,bs:=[(v,aj.row (Row.M [ah.arr .i64 z m]))] } :: H) (Tr.ok ((AV.tup [],none),aw::aw::{ lock:=false,bs:=[(v,aj.row (Row.M [ah.arr .i64 z2 m]))] } :: H))) [(0,AV.slc 3 0 v 0 1 m (some m)),(1,AV.int .i64 (Int.ofNat 0)),(2,AV.int .i64 (Int.ofNat m)),(6,AV.int .i64 (bG .i64 (Int.ofNat 0) (Int.ofNat 1)))]:=by kernel_rfl
theorem PU (n:Nat) (H:aa) (p:Int) (mk z z2:Nat→Int) (s:AV) (v m:Nat) (i j2:Int):aM (bp (n+2) 96 49) (il aD n 2) (bX aK 2 (oY v m i i) (aw::aw::aw::fK p mk z s v m::H) (.ok (.normal,hints (oY v m i j2++[(30,.bool false)]),aw::aw::aw::fK p mk z2 s v m::H))) aL (part Try.f96 [1,0,0]) (hints (wP v m i)) (aw::aw::aw::fK p mk z s v m::H) =
 (fun (Z0:ao)=>((fun (Z1:aV)=>Tr.ite (bQ i (Int.ofNat m)) (Tr.reqP (Z0=Z0∧aw::aw::aw::Z1::H=aw::aw::aw::Z1::H) (Tr.ok (Ex.normal,[(0,AV.slc 3 0 v 0 1 m (some m),none),(1,AV.int .i64 (Int.ofNat 0),none),(2,AV.int .i64 (Int.ofNat m),none),(6,AV.int .i64 (bG .i64 i (Int.ofNat 1)),none)],aw::aw::aw::{ lock:=false,bs:=[(v,aj.row (Row.M [ah.arr .i64 z2 m]))] } :: H))) (Tr.ok (Ex.exit 0,[(0,AV.slc 3 0 v 0 1 m (some m),none),(1,AV.int .i64 (Int.ofNat 0),none),(2,AV.int .i64 (Int.ofNat m),none),(6,AV.int .i64 i,none),(12,AV.bool false,some 1)],aw::aw::aw::Z1::H))) { lock:=false,bs:=[(v,aj.row (Row.M [ah.arr .i64 z m]))] })) [(0,AV.slc 3 0 v 0 1 m (some m)),(1,AV.int .i64 (Int.ofNat 0)),(2,AV.int .i64 (Int.ofNat m)),(6,AV.int .i64 i),(7,AV.int .i64 i)]:=by kernel_rfl
theorem PT (n:Nat) (H:aa) (p:Int) (mk z:Nat→Int) (s:AV) (v m:Nat) (i:Int):aM (bp (n+2) 96 49) (il aD n 2) (nB aK 2) aL (part Try.f96 [1,0,0]) (hints (wP v m i)) (aw::aw::aw::fK p mk z s v m::H) =
 Tr.ite (bQ i (Int.ofNat m)) Tr.bad (Tr.ok (Ex.exit 0,[(0,AV.slc 3 0 v 0 1 m (some m),none),(1,AV.int .i64 (Int.ofNat 0),none),(2,AV.int .i64 (Int.ofNat m),none),(6,AV.int .i64 i,none),(12,AV.bool false,some 1)],aw::aw::aw::{ lock:=false,bs:=[(v,aj.row (Row.M [ah.arr .i64 z m]))] } :: H)):=by kernel_rfl
theorem KU (n:Nat) (H:aa) (p:Int) (mk z:Nat→Int) (s:AV) (v m:Nat) (i j:Int):aM (bp (n+2) 96 49) (il aD n 2) aK aL (part Try.f96 [1,0,0,1,0,0,1,0,0]) (hints (oY v m i j)) (aw::aw::aw::fK p mk z s v m::H) =
 (fun (Z0:aN)=>((fun (Z1:aN)=>((fun (Z2:aV)=>((fun (Z3:aV)=>Tr.ite (bQ (Int.ofNat 0) j) (Tr.req (cN j m) (Tr.req (cL v v) (Tr.req (cw (au 0 j 1) m) (Tr.req (cN (bC .i64 j (Int.ofNat 1)) m) (Tr.req (cL v v) (Tr.req (cw (au 0 (bC .i64 j (Int.ofNat 1)) 1) m) (Tr.ite (aY (cI (z (au 0 j 1)) (z (au 0 j 1)))) (Tr.ite (aY (aY (cI (z (au 0 (bC .i64 j (Int.ofNat 1)) 1)) (z (au 0 (bC .i64 j (Int.ofNat 1)) 1))))) (Tr.req (cN (bC .i64 j (Int.ofNat 1)) m) (Tr.req (cL v v) (Tr.req (cw (au 0 (bC .i64 j (Int.ofNat 1)) 1) m) (Tr.req (cN j m) (Tr.req (cL v v) (Tr.req (cw (au 0 j 1) m) (Tr.req (cN j m) (Tr.req (cL v v) (Tr.req (cw (au 0 j 1) m) (Tr.req (jW (iO v v) (iO v (Nat.succ v))) (Tr.req (cN (bC .i64 j (Int.ofNat 1)) m) (Tr.req (cL v v) (Tr.req (cw (au 0 (bC .i64 j (Int.ofNat 1)) 1) m) (Tr.req (jW (iO v v) (iO v (Nat.succ v))) (Tr.ok (Ex.normal,Z1,aw::aw::aw::Z2::H)))))))))))))))) (Tr.ite (bQ (z (au 0 j 1)) (z (au 0 (bC .i64 j (Int.ofNat 1)) 1))) (Tr.req (cN (bC .i64 j (Int.ofNat 1)) m) (Tr.req (cL v v) (Tr.req (cw (au 0 (bC .i64 j (Int.ofNat 1)) 1) m) (Tr.req (cN j m) (Tr.req (cL v v) (Tr.req (cw (au 0 j 1) m) (Tr.req (cN j m) (Tr.req (cL v v) (Tr.req (cw (au 0 j 1) m) (Tr.req (jW (iO v v) (iO v (Nat.succ v))) (Tr.req (cN (bC .i64 j (Int.ofNat 1)) m) (Tr.req (cL v v) (Tr.req (cw (au 0 (bC .i64 j (Int.ofNat 1)) 1) m) (Tr.req (jW (iO v v) (iO v (Nat.succ v))) (Tr.ok (Ex.normal,Z1,aw::aw::aw::Z2::H)))))))))))))))) (Tr.ok (Ex.exit 2,Z0,aw::aw::aw::Z3::H)))) (Tr.ite (bQ (z (au 0 j 1)) (z (au 0 (bC .i64 j (Int.ofNat 1)) 1))) (Tr.req (cN (bC .i64 j (Int.ofNat 1)) m) (Tr.req (cL v v) (Tr.req (cw (au 0 (bC .i64 j (Int.ofNat 1)) 1) m) (Tr.req (cN j m) (Tr.req (cL v v) (Tr.req (cw (au 0 j 1) m) (Tr.req (cN j m) (Tr.req (cL v v) (Tr.req (cw (au 0 j 1) m) (Tr.req (jW (iO v v) (iO v (Nat.succ v))) (Tr.req (cN (bC .i64 j (Int.ofNat 1)) m) (Tr.req (cL v v) (Tr.req (cw (au 0 (bC .i64 j (Int.ofNat 1)) 1) m) (Tr.req (jW (iO v v) (iO v (Nat.succ v))) (Tr.ok (Ex.normal,Z1,aw::aw::aw::Z2::H)))))))))))))))) (Tr.ok (Ex.exit 2,Z0,aw::aw::aw::Z3::H)))))))))) (Tr.ok (Ex.exit 2,Z0,aw::aw::aw::Z3::H))) { lock:=false,bs:=[(v,aj.row (Row.M [ah.arr .i64 z m]))] })) { lock:=false,bs:=[(v,aj.row (Row.M [ah.arr .i64 (fO (fO z (au 0 j 1) (z (au 0 (bC .i64 j (Int.ofNat 1)) 1))) (au 0 (bC .i64 j (Int.ofNat 1)) 1) (z (au 0 j 1))) m]))] })) [(0,AV.slc 3 0 v 0 1 m (some m),none),(1,AV.int .i64 (Int.ofNat 0),none),(2,AV.int .i64 (Int.ofNat m),none),(6,AV.int .i64 i,none),(7,AV.int .i64 (bC .i64 j (Int.ofNat 1)),none)])) [(0,AV.slc 3 0 v 0 1 m (some m),none),(1,AV.int .i64 (Int.ofNat 0),none),(2,AV.int .i64 (Int.ofNat m),none),(6,AV.int .i64 i,none),(7,AV.int .i64 j,none),(30,AV.bool false,some 1)]:=by kernel_rfl
noncomputable def CP (z:Nat→Int) (j:Nat):Nat→Int:=fO (fO z j (z (j-1))) (j-1) (z j)
noncomputable def lS (z:Nat→Int):Nat→Nat→Int
 | 0=>z
 | j+1=>if z (j+1)<z j then lS (CP z (j+1)) j else z
noncomputable def iF (z:Nat→Int):Nat→Nat→Int
 | 0=>z
 | k+1=>lS (iF z k) (k+1)
section
variable (n:Nat) (H:aa) (p:Int) (mk z:Nat→Int) (s:AV) (v m:Nat)
theorem Q1:∀ b,(0,b) ∈ aJ (bn Try.f96)→b=.loop (part Try.f96 [1,0,0]):=eJ (by kernel_rfl)
theorem NT:∀ b,(2,b) ∈ aJ (part Try.f96 [1,0,0])→b=.loop (part Try.f96 [1,0,0,1,0,0,1,0,0]):=eJ (by kernel_rfl)
theorem O5 (i:Nat) (hi:i<m) (hm:m≤100):∃ y:ao×aa,exec (bp (n+2) 96 49) (.block 2 (.loop (part Try.f96 [1,0,0,1,0,0,1,0,0]))) (oY v m i i) (aw::aw::aw::fK p mk z s v m::H)=some (.normal,y)∧∃ j2:Int,y=(oY v m i j2++[(30,.bool false)],aw::aw::aw::fK p mk (lS z i) s v m::H):=by
 refine FF (n:=n+2) (f:=96) (nt:=49) (c:=part Try.f96 [1,0,0,1,0,0,1,0,0]) 2 (fun k fr G=>∃ (z':Nat→Int) (j:Nat),j+k=i∧fr=oY v m i j∧G=aw::aw::aw::fK p mk z' s v m::H∧lS z' j=lS z i) _ (i+1) (by omega) ⟨z,i,by omega,rfl,rfl,rfl⟩ (fun k fr G hI=>?_)
 obtain ⟨z',j,h1,rfl,rfl,h2⟩:=hI
 rw[← h2]
 cases j with
 | zero =>
   obtain ⟨x,hx1,hx2⟩:=aH (Q:=fun x=>x=(.exit 2,oY v m i ((0:Nat):Int)++[(30,.bool false)],aw::aw::aw::fK p mk z' s v m::H)) (KU n H p mk z' s v m (i:Int) ((0:Nat):Int)) (lL n 2) (af _ _) (ag _ _) (by
    exact wF)
   exact ⟨x,hx1,.inr (by rw[hx2];exact ⟨rfl,_,rfl⟩)⟩
 | succ j =>
   have es:bC .i64 ((j+1:Nat):Int) (Int.ofNat 1)=(j:Int):=by rw[m7,show Int.ofNat 1=1 from rfl,nD (by omega) (by omega)];omega
   have ed:au 0 ((j+1:Nat):Int) 1=j+1:=by rw[kY];omega
   have ee:au 0 (j:Int) 1=j:=by rw[kY];omega
   have eu:fO (fO z' (j+1) (z' j)) j (z' (j+1))=CP z' (j+1):=rfl
   by_cases hlt:z' (j+1)<z' j
   · obtain ⟨x,hx1,hx2⟩:=aH (Q:=fun x=>x.1=.normal∧tidy 0 x.2.1 x.2.2=(oY v m i (j:Int),aw::aw::aw::fK p mk (CP z' (j+1)) s v m::H)) (KU n H p mk z' s v m (i:Int) ((j+1:Nat):Int)) (lL n 2) (af _ _) (ag _ _) (by
      rw[es,ed,ee,eu]
      exact wF)
     refine ⟨x,hx1,.inl ⟨hx2.1,by omega,CP z' (j+1),j,by omega,?_,?_,?_⟩⟩
     · have:=congrArg Prod.fst hx2.2
       exact this
     · have:=congrArg Prod.snd hx2.2
       exact this
     · show _=(if z' (j+1)<z' j then lS (CP z' (j+1)) j else z')
       rw[if_pos hlt]
   · obtain ⟨x,hx1,hx2⟩:=aH (Q:=fun x=>x=(.exit 2,oY v m i ((j+1:Nat):Int)++[(30,.bool false)],aw::aw::aw::fK p mk z' s v m::H)) (KU n H p mk z' s v m (i:Int) ((j+1:Nat):Int)) (lL n 2) (af _ _) (ag _ _) (by
      rw[es,ed,ee,eu]
      exact wF)
     refine ⟨x,hx1,.inr ?_⟩
     rw[hx2]
     refine ⟨rfl,((j+1:Nat):Int),?_⟩
     rw[show lS z' (j+1)=(if z' (j+1)<z' j then lS (CP z' (j+1)) j else z') from rfl,if_neg hlt]
theorem Tn (h1:1≤m) (hm:m≤100):exec (bp (n+2) 96 49) (.block 0 (.loop (part Try.f96 [1,0,0]))) (wP v m ((1:Nat):Int)) (aw::aw::aw::fK p mk z s v m::H)=some (.normal,wP v m ((m:Nat):Int)++[(12,.bool false)],aw::aw::aw::fK p mk (iF z (m-1)) s v m::H):=by
 have:=j8 (n:=n+2) (f:=96) (nt:=49) (c:=part Try.f96 [1,0,0]) 0 (fun k=>wP v m ((k+1:Nat):Int)) (fun k=>aw::aw::aw::fK p mk (iF z k) s v m::H) (m-1) (wP v m ((m:Nat):Int)++[(12,.bool false)],aw::aw::aw::fK p mk (iF z (m-1)) s v m::H) (by omega) (fun k hk=>?_) ?_
 · exact this
 · obtain ⟨y,hy,j2,rfl⟩:=O5 n H p mk (iF z k) s v m (k+1) (by omega) hm
   have ej:bG .i64 ((k+1:Nat):Int) (Int.ofNat 1)=((k+1+1:Nat):Int):=by rw[ju,show Int.ofNat 1=1 from rfl];exact nD (by omega) (by omega)
   refine aH (PU n H p mk (iF z k) (iF z (k+1)) s v m ((k+1:Nat):Int) j2) (lL n 2) (aF (af _ _) NT (fun x hx=>by rw[← Tr.ab hx];simp only[oz.st,ik];exact hy)) (ag _ _) ?_
   rw[ej]
   exact wF
 · have e:((m-1+1:Nat):Int)=(m:Int):=by omega
   rw[e]
   obtain ⟨x,h1,rfl⟩:=aH (Q:=fun x=>x=(.exit 0,wP v m ((m:Nat):Int)++[(12,.bool false)],aw::aw::aw::fK p mk (iF z (m-1)) s v m::H)) (PT n H p mk (iF z (m-1)) s v m (m:Int)) (lL n 2) (eV (af _ _) 2) (ag _ _) (by
    exact wF)
   exact h1
theorem RA (h1:1≤m) (hm:m≤100):cd (n+3) (.fn 96) [.slc 2 0 v 0 1 m (some m),.int .i64 0,.int .i64 (Int.ofNat m)] (aw::aw::fK p mk z s v m::H)=some (.tup [],aw::aw::fK p mk (iF z (m-1)) s v m::H):=by
 have l:=Tn n H p mk z s v m h1 hm
 have e1:bG .i64 0 1=((1:Nat):Int):=by rw[ju];rfl
 refine aC (n:=n+2) Try.func96 rfl rfl rfl (Ui n H p mk z (iF z (m-1)) s v m ((m:Nat):Int)) (lL n 2) (aF (af _ _) Q1 (fun x hx=>by rw[← Tr.ab hx,e1];simp only[oz.st,ik];exact l)) (ag _ _) ?_
 exact wF
theorem Rw (h1:1≤m) (hm:m≤12) (lim:Int):cd (n+4) (.fn 91) [.slc 1 0 v 0 1 m (some m),.int .i64 0,.int .i64 (Int.ofNat m),.int .i64 lim] (aw::fK p mk z s v m::H)=some (.tup [],aw::fK p mk (iF z (m-1)) s v m::H):=by
 refine aC (n:=n+3) Try.func91 rfl rfl rfl (Ue n H p mk z (iF z (m-1)) s v m lim) (yL _ (n+3) 0 (fun k=>fG (aB _) (fun x hx=>?_))) (af _ _) (ag _ _) ?_
 · rw[← Tr.ab hx,show n+3+k=n+k+3 by omega]
   exact RA (n+k) H p mk z s v m h1 (by omega)
 · exact wF
def pe (x:Nat):Int:=if x<2 then 1 else if x<4 then 2 else if x<8 then 3 else 4
theorem Lq (n:Nat) (H:aa):cd (n+3) (.fn 92) [.int .u64 (Int.ofNat 1)] H=some (.int .i64 (pe 1),H):=by kernel_rfl
theorem Lr (n:Nat) (H:aa):cd (n+3) (.fn 92) [.int .u64 (Int.ofNat 2)] H=some (.int .i64 (pe 2),H):=by kernel_rfl
theorem Ls (n:Nat) (H:aa):cd (n+3) (.fn 92) [.int .u64 (Int.ofNat 3)] H=some (.int .i64 (pe 3),H):=by kernel_rfl
theorem Lt (n:Nat) (H:aa):cd (n+3) (.fn 92) [.int .u64 (Int.ofNat 4)] H=some (.int .i64 (pe 4),H):=by kernel_rfl
theorem Lu (n:Nat) (H:aa):cd (n+3) (.fn 92) [.int .u64 (Int.ofNat 5)] H=some (.int .i64 (pe 5),H):=by kernel_rfl
theorem Lv (n:Nat) (H:aa):cd (n+3) (.fn 92) [.int .u64 (Int.ofNat 6)] H=some (.int .i64 (pe 6),H):=by kernel_rfl
theorem Lw (n:Nat) (H:aa):cd (n+3) (.fn 92) [.int .u64 (Int.ofNat 7)] H=some (.int .i64 (pe 7),H):=by kernel_rfl
theorem Lx (n:Nat) (H:aa):cd (n+3) (.fn 92) [.int .u64 (Int.ofNat 8)] H=some (.int .i64 (pe 8),H):=by kernel_rfl
theorem Ly (n:Nat) (H:aa):cd (n+3) (.fn 92) [.int .u64 (Int.ofNat 9)] H=some (.int .i64 (pe 9),H):=by kernel_rfl
theorem JE (n:Nat) (H:aa):cd (n+3) (.fn 92) [.int .u64 (Int.ofNat 10)] H=some (.int .i64 (pe 10),H):=by kernel_rfl
theorem JF (n:Nat) (H:aa):cd (n+3) (.fn 92) [.int .u64 (Int.ofNat 11)] H=some (.int .i64 (pe 11),H):=by kernel_rfl
theorem JG (n:Nat) (H:aa):cd (n+3) (.fn 92) [.int .u64 (Int.ofNat 12)] H=some (.int .i64 (pe 12),H):=by kernel_rfl
theorem Rx (x:Nat) (hx:1≤x∧x≤12) (n:Nat) (H:aa):cd (n+3) (.fn 92) [.int .u64 (Int.ofNat x)] H=some (.int .i64 (pe x),H):=by
 have:x=1∨x=2∨x=3∨x=4∨x=5∨x=6∨x=7∨x=8∨x=9∨x=10∨x=11∨x=12:=by omega
 rcases this with rfl | rfl | rfl | rfl | rfl | rfl | rfl | rfl | rfl | rfl | rfl | rfl
 · exact Lq n H
 · exact Lr n H
 · exact Ls n H
 · exact Lt n H
 · exact Lu n H
 · exact Lv n H
 · exact Lw n H
 · exact Lx n H
 · exact Ly n H
 · exact JE n H
 · exact JF n H
 · exact JG n H
theorem Ri (h1:1≤m) (hm:m≤12):cd (n+5) (.fn 63) [.slc 0 0 v 0 1 m (some m)] (fK p mk z s v m::H)=some (.tup [],fK p mk (iF z (m-1)) s v m::H):=by
 have ew:Ar .u64 (Int.ofNat m)=Int.ofNat m:=by
  rw[Bw]
  simp only[IntKind.wrap,IntKind.signed,IntKind.bits]
  simp
  omega
 refine aC (n:=n+4) Try.func63 rfl rfl rfl (TZ n H p mk z (iF z (m-1)) s v m (pe m)) (yL _ (n+4) 0 (fun k=>nH (fG (aB _) (fun x hx=>?_)) (fun args p' v' hg hp H=>?_))) (af _ _) (ag _ _) ?_
 · rw[← Tr.ab hx,show n+4+k=n+k+4 by omega]
   exact Rw (n+k) H p mk z s v m h1 hm _
 · unfold QL at hg
   split at hg
   · simp only[nP] at hg
     obtain ⟨rfl,rfl⟩:=hg
     subst hp
     rw[show n+4+k=n+1+k+3 by omega]
     exact Rx m ⟨h1,hm⟩ _ H
   · cases hg
 · rw[ew]
   refine Tr.bf rfl (Tr.bf ⟨rfl,rfl⟩ (Tr.ba ⟨rfl,rfl⟩))
end
end Go.Eng
end
section
namespace Go.Eng
open Go.Proofs
noncomputable def Cl (m:Nat) (o:Nat→Int):aV:=⟨false,[(0,.row (.M [.arr .i64 (eC (fun _=>Int.ofNat 0) 0 o (qv m (dw (Int.ofNat m)))) (dw (Int.ofNat m))]))]⟩
noncomputable def Cm (m:Nat) (y:Nat→Int):aV:=⟨false,[(0,.row (.M [.arr .i64 y (dw (Int.ofNat m))]))]⟩
noncomputable def BR (l:Nat) (t:Nat→Int) (k:Nat) (d e:Nat→Int) (h:Int) (m:Nat) (o:Nat→Int):ao:=[(8,.ptr 2 1 0 0),(22,.fn (.func 85) [] [.ptrT (some 2) (.G [eA 0 l t k d e]) 0,.ptrT none (.I .i64 [h]) 0]),(23,cA m o false)]
noncomputable def vv (m:Nat) (o:Nat→Int):ao:=[(8,.ptr 2 1 0 0),(9,cA m o false)]
theorem MI (n l k:Nat) (t d e:Nat→Int) (h:Int) (m:Nat) (o:Nat→Int) (L:hY) (L1:aV) (H:aa):aM (wB n 27 37 2 2) (il aD n 0) aK aL (part Try.f27 [1,1,1,1,0,1,0,0]) (hints (BR l t k d e h m o)) (aw::L1::wY l t k d L::H) =
 Tr.ok (Ex.normal,[(8,AV.ptr 2 1 0 0,none),(9,AV.slcT none (Row.M [ah.arr .i64 o m]) 1 m false,none)],aw::L1::{ lock:=false,bs:=[(0,aj.row (Row.G [AV.slcT none (Row.M [ah.arr .i64 t l]) 1 l false,AV.slcT none (Row.M [ah.arr .i64 d k]) 1 k false])),(0,aj.row (Row.G [AV.nils])),(0,aj.loop L)] } :: H):=by kernel_rfl
theorem MG (n l k:Nat) (t d:Nat→Int) (m:Nat) (o y:Nat→Int) (L:hY) (L1:aV) (H:aa):aM (wB n 27 37 2 2) (il (ye aD 63 [.slc 0 0 0 0 1 (dw (Int.ofNat m)) (some (dw (Int.ofNat m)))] (Cl m o::L1::wY l t k d L::H) (.ok (.tup [],Cm m y::L1::wY l t k d L::H))) n 0) aK aL (part Try.f27 [1,1,1,1,0,1,0,1]) (hints (vv m o)) (aw::L1::wY l t k d L::H) =
 (fun (Z0:Nat×aj)=>((fun (Z1:aV)=>Tr.req (DN (Int.ofNat m) (Int.ofNat m) 8) (Tr.req (iO (qv m (dw (Int.ofNat m))) m) (Tr.req (iO (b9 0 (qv m (dw (Int.ofNat m)))) m) (Tr.req (cL 0 0) (Tr.req (gF 0 (qv m (dw (Int.ofNat m))) 0 (dw (Int.ofNat m))) (Tr.reqP ([AV.slc 0 0 0 0 1 (dw (Int.ofNat m)) (some (dw (Int.ofNat m)))]=[AV.slc 0 0 0 0 1 (dw (Int.ofNat m)) (some (dw (Int.ofNat m)))]∧Z1::L1::{ lock:=false,bs:=[Z0,(0,aj.row (Row.G [AV.nils])),(0,aj.loop L)] } :: H=Z1::L1::{ lock:=false,bs:=[Z0,(0,aj.row (Row.G [AV.nils])),(0,aj.loop L)] } :: H) (Tr.req (cL 0 0) (Tr.req (gF 0 (dw (Int.ofNat m)) 0 (dw (Int.ofNat m))) (Tr.req (iv 0 1 24) (Tr.req (cL 0 0) (Tr.req (iO 1 1) (Tr.ok (Ex.normal,[],{ lock:=false,bs:=[(0,aj.dead),(0,aj.row (Row.G [AV.slcT none (Row.M [ah.arr .i64 (dW y 0) (dw (Int.ofNat m))]) 1 (dw (Int.ofNat m)) (cL (dw (Int.ofNat m)) (dw (Int.ofNat m)))])),(0,aj.dead)] } :: L1::{ lock:=false,bs:=[Z0,(0,aj.row (Row.G [AV.slc 0 3 0 0 1 1 none])),(0,aj.loop L),(0,aj.row (Row.F (fun x=>AV.slcT none (Row.M [ah.arr .i64 (dW y 0) (dw (Int.ofNat m))]) 1 (dw (Int.ofNat m)) false) 1))] } :: H))))))))))))) { lock:=false,bs:=[(0,aj.row (Row.M [ah.arr .i64 (eC (fun x=>Int.ofNat 0) 0 o (qv m (dw (Int.ofNat m)))) (dw (Int.ofNat m))]))] })) (0,aj.row (Row.G [AV.slcT none (Row.M [ah.arr .i64 t l]) 1 l false,AV.slcT none (Row.M [ah.arr .i64 d k]) 1 k false])):=by kernel_rfl
theorem MJ (n l k:Nat) (t d e:Nat→Int) (h:Int) (m:Nat) (o:Nat→Int) (L:hY) (v q:Nat) (f:Nat→Nat→Int) (g:Nat→Nat) (L1:aV) (H:aa):aM (wB n 27 37 2 2) (il aD n 0) aK aL (part Try.f27 [1,1,1,1,0,1,0,0]) (hints (BR l t k d e h m o)) (aw::L1::jC l t k d L v q f g::H) =
 Tr.ok (Ex.normal,[(8,AV.ptr 2 1 0 0,none),(9,AV.slcT none (Row.M [ah.arr .i64 o m]) 1 m false,none)],aw::L1::{ lock:=false,bs:=[(0,aj.row (Row.G [AV.slcT none (Row.M [ah.arr .i64 t l]) 1 l false,AV.slcT none (Row.M [ah.arr .i64 d k]) 1 k false])),(0,aj.row (Row.G [AV.slc 0 3 v 0 1 q none])),(0,aj.loop L),(v,aj.row (Row.F (fun j=>AV.slcT none (Row.M [ah.arr .i64 (f j) (g j)]) 1 (g j) false) q))] } :: H):=by kernel_rfl
theorem MH (n l k:Nat) (t d:Nat→Int) (m:Nat) (o y:Nat→Int) (L:hY) (v q:Nat) (f:Nat→Nat→Int) (g:Nat→Nat) (L1:aV) (H:aa):aM (wB n 27 37 2 2) (il (ye aD 63 [.slc 0 0 0 0 1 (dw (Int.ofNat m)) (some (dw (Int.ofNat m)))] (Cl m o::L1::jC l t k d L v q f g::H) (.ok (.tup [],Cm m y::L1::jC l t k d L v q f g::H))) n 0) aK aL (part Try.f27 [1,1,1,1,0,1,0,1]) (hints (vv m o)) (aw::L1::jC l t k d L v q f g::H) =
 (fun (Z0:aV)=>((fun (Z1:aV)=>Tr.req (DN (Int.ofNat m) (Int.ofNat m) 8) (Tr.req (iO (qv m (dw (Int.ofNat m))) m) (Tr.req (iO (b9 0 (qv m (dw (Int.ofNat m)))) m) (Tr.req (cL 0 0) (Tr.req (gF 0 (qv m (dw (Int.ofNat m))) 0 (dw (Int.ofNat m))) (Tr.reqP ([AV.slc 0 0 0 0 1 (dw (Int.ofNat m)) (some (dw (Int.ofNat m)))]=[AV.slc 0 0 0 0 1 (dw (Int.ofNat m)) (some (dw (Int.ofNat m)))]∧Z1::L1::Z0::H=Z1::L1::Z0::H) (Tr.req (cL 0 0) (Tr.req (gF 0 (dw (Int.ofNat m)) 0 (dw (Int.ofNat m))) (Tr.req (iv q 1 24) (Tr.req (cL 0 0) (Tr.req (iO 1 1) (Tr.req (cL v v) (Tr.req (cL (b9 0 q) q) (Tr.reqP (Ep (fun j=>AV.slcT none (Row.M [ah.arr .i64 (f (b9 0 j)) (g (b9 0 j))]) 1 (g (b9 0 j)) false) IntKind.i64 1 false) (Tr.ok (Ex.normal,[],{ lock:=false,bs:=[(0,aj.dead),(0,aj.row (Row.G [AV.slcT none (Row.M [ah.arr .i64 (dW y 0) (dw (Int.ofNat m))]) 1 (dw (Int.ofNat m)) (cL (dw (Int.ofNat m)) (dw (Int.ofNat m)))]))] } :: L1::{ lock:=false,bs:=[(0,aj.row (Row.G [AV.slcT none (Row.M [ah.arr .i64 t l]) 1 l false,AV.slcT none (Row.M [ah.arr .i64 d k]) 1 k false])),(0,aj.row (Row.G [AV.slc 0 3 (Nat.succ v) 0 1 (b9 q 1) none])),(0,aj.loop L),(Nat.succ v,aj.row (Row.F (fun j=>AV.slcT none (Row.M [ah.arr .i64 (Ih (cw j q) (f (b9 0 j)) (dW y 0)) (D6 (cw j q) (g (b9 0 j)) (dw (Int.ofNat m)))]) 1 (D6 (cw j q) (g (b9 0 j)) (dw (Int.ofNat m))) false) (b9 q 1)))] } :: H)))))))))))))))) { lock:=false,bs:=[(0,aj.row (Row.M [ah.arr .i64 (eC (fun x=>Int.ofNat 0) 0 o (qv m (dw (Int.ofNat m)))) (dw (Int.ofNat m))]))] })) { lock:=false,bs:=[(0,aj.row (Row.G [AV.slcT none (Row.M [ah.arr .i64 t l]) 1 l false,AV.slcT none (Row.M [ah.arr .i64 d k]) 1 k false])),(0,aj.row (Row.G [AV.slc 0 3 v 0 1 q none])),(0,aj.loop L),(v,aj.row (Row.F (fun j=>AV.slcT none (Row.M [ah.arr .i64 (f j) (g j)]) 1 (g j) false) q))] }:=by kernel_rfl
noncomputable def yU:Code:=part Try.f27 [1,1,1,1,0,1,0,0]
noncomputable def yV:Code:=part Try.f27 [1,1,1,1,0,1,0,1]
noncomputable def dL (l:Nat) (t:Nat→Int) (k:Nat) (d e:Nat→Int) (h:Int):hY:={ state:=.ready,pending:=none,fn:=27,nt:=37,fr:=[(8,.ptr 0 1 0 0),(22,.fn (.func 85) [] [.ptrT (some 0) (.G [eA 0 l t k d e]) 0,.ptrT none (.I .i64 [h]) 0])],params:=[23],assign:=yU,body:=yV }
noncomputable def wa (m:Nat) (o:Nat→Int):Nat→Int:=iF (eC (fun _=>Int.ofNat 0) 0 o m) (m-1)
theorem pF (m:Nat):dw (Int.ofNat m)=m:=by rw[mJ];rfl
section
variable (n l k:Nat) (t d e:Nat→Int) (h:Int) (m:Nat) (o:Nat→Int) (L1:aV) (H:aa)
theorem Ln (G:aa) (h1:1≤m) (hm:m≤12):cd (n+5) (.fn 63) [.slc 0 0 0 0 1 (dw (Int.ofNat m)) (some (dw (Int.ofNat m)))] (Cl m o::G)=some (.tup [],Cm m (wa m o)::G):=by
 have:=Ri n G 0 (fun _=>0) (eC (fun _=>Int.ofNat 0) 0 o m) .undef 0 m h1 hm
 unfold Cl Cm wa
 rw[pF,po,Nat.min_self]
 exact this
theorem Mx (h1:1≤m) (hm:m≤12):cd (n+6) (.round 1 2) [cA m o false] (L1::wY l t k d (dL l t k d e h)::H)=some (.bool true,L1::jC l t k d (dL l t k d e h) 0 1 (fun _=>wa m o) (fun _=>m)::H):=by
 have h1':exec (wB (n+5) 27 37 2 2) yU (BR l t k d e h m o) (aw::L1::wY l t k d (dL l t k d e h)::H)=some (.normal,vv m o,aw::L1::wY l t k d (dL l t k d e h)::H) :=
  p6 (MI (n+5) l k t d e h m o (dL l t k d e h) L1 H) (ar _) (af _ _) (ag _ _) (Tr.ba rfl)
 have h2':∃ lv:aV,exec (wB (n+5) 27 37 2 2) yV (vv m o) (aw::L1::wY l t k d ({ dL l t k d e h with state:=.busy })::H)=some (.normal,[],lv::L1::jC l t k d ({ dL l t k d e h with state:=.busy }) 0 1 (fun _=>wa m o) (fun _=>m)::H):=by
  refine ⟨⟨false,[(0,.dead),(0,.row (.G [.slcT none (.M [.arr .i64 (wa m o) m]) 1 m (cL m m)])),(0,.dead)]⟩,p6 (MG (n+5) l k t d m o (wa m o) { dL l t k d e h with state:=.busy } L1 H) (aQ _ (n+5) (fG (aB _) (fun x hx=>by rw[← Tr.ab hx];exact Ln n m o _ h1 hm))) (af _ _) (ag _ _) ?_⟩
  generalize dL l t k d e h=L at *
  generalize wa m o=Y at *
  simp only[pF,dF,xL,xK,bJ,gw,Nat.zero_add,Bool.cond_decide,po,Nat.min_self,and_self]
  exact wF
 obtain ⟨lv,h2'⟩:=h2'
 exact tK (l:=dL l t k d e h) (l2:={ dL l t k d e h with state:=.busy }) rfl rfl rfl rfl h1' h2' rfl rfl
theorem My (v q:Nat) (f:Nat→Nat→Int) (g:Nat→Nat) (h1:1≤m) (hm:m≤12) (hq:q<1000):cd (n+6) (.round 1 2) [cA m o false] (L1::jC l t k d (dL l t k d e h) v q f g::H)=some (.bool true,L1::jC l t k d (dL l t k d e h) (v+1) (q+1) (fun j=>if j<q then f j else wa m o) (fun j=>if j<q then g j else m)::H):=by
 have h1':exec (wB (n+5) 27 37 2 2) yU (BR l t k d e h m o) (aw::L1::jC l t k d (dL l t k d e h) v q f g::H)=some (.normal,vv m o,aw::L1::jC l t k d (dL l t k d e h) v q f g::H) :=
  p6 (MJ (n+5) l k t d e h m o (dL l t k d e h) v q f g L1 H) (ar _) (af _ _) (ag _ _) (Tr.ba rfl)
 have h2':∃ lv:aV,exec (wB (n+5) 27 37 2 2) yV (vv m o) (aw::L1::jC l t k d ({ dL l t k d e h with state:=.busy }) v q f g::H)=some (.normal,[],lv::L1::jC l t k d ({ dL l t k d e h with state:=.busy }) (v+1) (q+1) (fun j=>if j<q then f j else wa m o) (fun j=>if j<q then g j else m)::H):=by
  refine ⟨⟨false,[(0,.dead),(0,.row (.G [.slcT none (.M [.arr .i64 (wa m o) m]) 1 m (cL m m)]))]⟩,p6 (MH (n+5) l k t d m o (wa m o) { dL l t k d e h with state:=.busy } v q f g L1 H) (aQ _ (n+5) (fG (aB _) (fun x hx=>by rw[← Tr.ab hx];exact Ln n m o _ h1 hm))) (af _ _) (ag _ _) ?_⟩
  generalize dL l t k d e h=L at *
  generalize wa m o=Y at *
  simp only[pF,dF,xL,xK,bJ,gw,Nat.zero_add,Bool.cond_decide,po,Nat.min_self,and_self]
  have ha:Ep (fun j=>.slcT none (.M [.arr .i64 (f j) (g j)]) 1 (g j) false) .i64 1 false:=by rw[BD];exact fun j=>⟨_,_,_,rfl⟩
  repeat' first | (refine Tr.bh (fun hc=>?_) (fun hc=>?_)<;>(try simp (disch:=omega) only[nV,nW,ha] at hc)<;>try omega) | (refine Tr.cj ?_ ?_;· (try simp (disch:=omega) only[nV,nW,ha]);try omega) | (refine Tr.bf ?_ ?_;· first | exact trivial | rfl | exact ⟨rfl,rfl⟩ | exact ⟨rfl,rfl,rfl⟩ | (simp (disch:=omega) only[nV,nW,ha];done) | ((try simp (disch:=omega) only[nV,nW,ha]);omega)) | fail
  all_goals first
   | exact Tr.ba rfl
   | fail
 obtain ⟨lv,h2'⟩:=h2'
 exact tK (l:=dL l t k d e h) (l2:={ dL l t k d e h with state:=.busy }) rfl rfl rfl rfl h1' h2' rfl rfl
end
end Go.Eng
end
section
namespace Go.Eng
open Go.Proofs
noncomputable def FH (l:Nat) (t:Nat→Int) (k:Nat) (d:Nat→Int):aV:=⟨false,[(0,.row (.G [cA l t false,cA k d false])),(0,.row (.G [.nils]))]⟩
noncomputable def I1 (l:Nat) (t:Nat→Int) (k:Nat) (d:Nat→Int) (v m:Nat) (f:Nat→Nat→Int) (g:Nat→Nat):aV:=⟨false,[(0,.row (.G [cA l t false,cA k d false])),(0,.row (.G [.slc 0 3 v 0 1 m none])),(0,.dead),(v,.row (.F (fun j=>cA (g j) (f j) false) m))]⟩
noncomputable def yt (l:Nat) (t:Nat→Int) (k:Nat) (d e:Nat→Int) (h:Int):ao:=[(8,.ptr 0 1 0 0),(22,.fn (.func 85) [] [.ptrT (some 0) (.G [eA 0 l t k d e]) 0,.ptrT none (.I .i64 [h]) 0])]
theorem TY (n s l k:Nat) (t d g:Nat→Int) (h:Int) (H:aa):aX Try.prog (cd n) 100000 62 Try.f62 (KtL.kt 62) (il aD n 0) aK aL [(eA s l t k d g,none),(.int .i64 h,none)] H =
 Tr.ok ((AV.fn (Fn.func 85) [] [AV.ptrT (some 0) (Row.G [AV.ptrT (some s) (Row.M [ah.one (AV.slcT none (Row.M [ah.arr .i64 t l]) 1 l false),ah.one (AV.slcT none (Row.M [ah.arr .i64 d k]) 1 k false),ah.arr .i64 g 30]) 0]) 0,AV.ptrT none (Row.I .i64 [h]) 0],none),H):=by kernel_rfl
theorem TI (n l k:Nat) (t d e:Nat→Int) (h:Int) (v m:Nat) (f:Nat→Nat→Int) (g:Nat→Nat) (H:aa):aX Try.prog (cd n) 100000 27 Try.f27 (KtL.kt 27) (il (tX (tX aD 61 [bR l t k d,.int .i64 h,.int .i64 0] (.tup [eA 0 l t k d e,.int .i64 0])) 62 [eA 0 l t k d e,.int .i64 h] (.fn (.func 85) [] [.ptrT (some 0) (.G [eA 0 l t k d e]) 0,.ptrT none (.I .i64 [h]) 0])) n 0) aK (Lb aL (fun _=>true) (yt l t k d e h) (FH l t k d::H) (.ok (.normal,hints (yt l t k d e h),I1 l t k d v m f g::H))) [(bR l t k d,none),(.int .i64 h,none)] H =
 (fun (Z0:Row)=>((fun (Z1:Row)=>((fun (Z2:ao)=>Tr.reqP ([AV.agg Z1,AV.int .i64 h,AV.int .i64 (Int.ofNat 0)]=[AV.agg Z1,AV.int .i64 h,AV.int .i64 (Int.ofNat 0)]) (Tr.ite (aY (cI (Int.ofNat 0) (Int.ofNat 0))) (Tr.ok ((AV.tup [AV.nils,AV.int .i64 (Int.ofNat 0)],none),H)) (Tr.reqP ([AV.ptrT (some 0) Z0 0,AV.int .i64 h]=[AV.ptrT (some 0) Z0 0,AV.int .i64 h]) (Tr.reqP (Z2=Z2∧{ lock:=false,bs:=[(0,aj.row Z1),(0,aj.row (Row.G [AV.nils]))] } :: H={ lock:=false,bs:=[(0,aj.row Z1),(0,aj.row (Row.G [AV.nils]))] } :: H) (Tr.req (cL v v) (Tr.req (gF 0 m 0 m) (Tr.ok ((AV.tup [AV.slcT none (Row.F (fun j=>AV.slcT none (Row.M [ah.arr .i64 (f (b9 0 j)) (g (b9 0 j))]) 1 (g (b9 0 j)) false) m) 1 m false,AV.int .i64 (Int.ofNat 0)],none),H)))))))) [(8,AV.ptr 0 1 0 0),(22,AV.fn (Fn.func 85) [] [AV.ptrT (some 0) (Row.G [AV.ptrT (some 0) Z0 0]) 0,AV.ptrT none (Row.I .i64 [h]) 0])])) (Row.G [AV.slcT none (Row.M [ah.arr .i64 t l]) 1 l false,AV.slcT none (Row.M [ah.arr .i64 d k]) 1 k false]))) (Row.M [ah.one (AV.slcT none (Row.M [ah.arr .i64 t l]) 1 l false),ah.one (AV.slcT none (Row.M [ah.arr .i64 d k]) 1 k false),ah.arr .i64 e 30]):=by kernel_rfl
theorem PX (n l k:Nat) (t d:Nat→Int) (h c:Int) (H:aa):aX Try.prog (cd n) 100000 27 Try.f27 (KtL.kt 27) (il (tX aD 61 [bR l t k d,.int .i64 h,.int .i64 0] (.tup [.nilp,.int .i64 c])) n 0) aK (Lb aL (fun _=>true) [] [] .bad) [(bR l t k d,none),(.int .i64 h,none)] H =
 (fun (Z0:List AV)=>Tr.reqP (Z0=Z0) (Tr.ite (aY (cI c (Int.ofNat 0))) (Tr.ok ((AV.tup [AV.nils,AV.int .i64 c],none),H)) Tr.bad)) [AV.agg (Row.G [AV.slcT none (Row.M [ah.arr .i64 t l]) 1 l false,AV.slcT none (Row.M [ah.arr .i64 d k]) 1 k false]),AV.int .i64 h,AV.int .i64 (Int.ofNat 0)]:=by kernel_rfl
end Go.Eng
end
section
namespace Go.Eng
open Go.Proofs
theorem Rh (n s l k:Nat) (t d g:Nat→Int) (h:Int) (H:aa):cd (n+1) (.fn 62) [eA s l t k d g,.int .i64 h] H=some (.fn (.func 85) [] [.ptrT (some 0) (.G [eA s l t k d g]) 0,.ptrT none (.I .i64 [h]) 0],H):=by
 refine aC (n:=n) Try.func62 rfl rfl rfl (TY n s l k t d g h H) (ar _) (af _ _) (ag _ _) ?_
 exact wF
noncomputable def gP (l k:Nat) (t d:Nat→Int) (h:Int) (m j:Nat):Nat:=(r5 l k t d h (min j m)).length
noncomputable def fP (l k:Nat) (t d:Nat→Int) (h:Int) (m j:Nat):Nat→Int:=wa (gP l k t d h m j) (aA (r5 l k t d h (min j m)))
theorem Hj (l k:Nat) (t d:Nat→Int) (h:Int) (m:Nat):(fun j=>if j<m+1 then gP l k t d h m j else (r5 l k t d h (m+1)).length)=gP l k t d h (m+1):=by
 funext j
 unfold gP
 by_cases c:j<m+1
 · rw[if_pos c,show min j m=j by omega,show min j (m+1)=j by omega]
 · rw[if_neg c,show min j (m+1)=m+1 by omega]
theorem He (l k:Nat) (t d:Nat→Int) (h:Int) (m:Nat):(fun j=>if j<m+1 then fP l k t d h m j else wa (r5 l k t d h (m+1)).length (aA (r5 l k t d h (m+1))))=fP l k t d h (m+1):=by
 funext j
 unfold fP gP
 by_cases c:j<m+1
 · rw[if_pos c,show min j m=j by omega,show min j (m+1)=j by omega]
 · rw[if_neg c,show min j (m+1)=m+1 by omega]
section
variable (n l k:Nat) (t d:Nat→Int) (h:Int) (H:aa)
theorem Bl (hs:Sh l t k d) (hc:ct l t d h=true) (hh:1≤h∧h≤10) (m:Nat) (hm:m<c8 l t d h):1≤(r5 l k t d h m).length∧(r5 l k t d h m).length≤h.toNat:=by
 have e:h=(h.toNat:Int):=by omega
 obtain ⟨M,a,b,c,f⟩:=Gn (H:=h.toNat) (z:=zP l t k d (c8 l t d h:Nat)) (f0:=bH (cT t l)) hs.l30 hs.tl (by omega) (fun i hi=>by
  rw[oS hs i hi]
  have:=lY (fun x=>decide (t x=(i:Int))) l
  have:=hs.l30
  omega)
 have hM:=wh hs hc e a b c
 obtain ⟨P,p1,p2⟩:=f m (by omega)
 obtain ⟨q,a1,a2,a3,a4,a5,a6,_⟩:=Gz (z:=zP l t k d (c8 l t d h:Nat)) hs.l30 hs.tl (show 0<h.toNat by omega) (b m (by omega)) p2
 unfold r5 KH
 rw[a5,a6]
 omega
noncomputable def JX (l k:Nat) (t d:Nat→Int) (h:Int) (H:aa):Nat→aa
 | 0=>wY l t k d (dL l t k d (cT t l) h)::H
 | m+1=>jC l t k d (dL l t k d (cT t l) h) m (m+1) (fP l k t d h m) (gP l k t d h m)::H
theorem Ul (hs:Sh l t k d) (hc:ct l t d h=true) (hh:1≤h∧h≤10) (T:Nat) (hT:c8 l t d h=T+1):exec (bp (n+7) 27 37) (.rangeFunc (.tmp 22) #[23] yU yV) (yt l t k d (cT t l) h) (FH l t k d::H)=some (.normal,yt l t k d (cT t l) h,I1 l t k d T (T+1) (fP l k t d h T) (gP l k t d h T)::H):=by
 have hy:∀ m,m<c8 l t d h→∀ L:aV,L.lock=false→cd (n+1+5) (.round 1 2) [cA (r5 l k t d h m).length (aA (r5 l k t d h m)) false] (L::JX l k t d h H m)=some (.bool true,L::JX l k t d h H (m+1)):=fun m hm L _=>by
  obtain ⟨r1,r2⟩:=Bl l k t d h hs hc hh m hm
  have htr:=(lF hs hc).2.2
  cases m with
  | zero =>
    have:=Mx n l k t d (cT t l) h (r5 l k t d h 0).length (aA (r5 l k t d h 0)) L H r1 (by omega)
    have e1:gP l k t d h 0=fun _=>(r5 l k t d h 0).length:=by funext j;unfold gP;rw[Nat.min_zero]
    have e2:fP l k t d h 0=fun _=>wa (r5 l k t d h 0).length (aA (r5 l k t d h 0)):=by funext j;unfold fP gP;rw[Nat.min_zero]
    show _=some (_,L::jC l t k d (dL l t k d (cT t l) h) 0 1 (fP l k t d h 0) (gP l k t d h 0)::H)
    rw[e1,e2]
    exact this
  | succ m =>
    have:=My n l k t d (cT t l) h (r5 l k t d h (m+1)).length (aA (r5 l k t d h (m+1))) L H m (m+1) (fP l k t d h m) (gP l k t d h m) r1 (by omega) (by omega)
    rw[Hj,He] at this
    exact this
 have hcall:=N3 (n+1) 0 l k t d h (JX l k t d h H) hs hc hh hy
 rw[hT] at hcall
 exact zL (cx:=bp (n+7) 27 37) (l:=dL l t k d (cT t l) h) (f:=.tmp 22) (ps:=#[23]) (fr:=yt l t k d (cT t l) h) (H:=FH l t k d::H) (g:=85) (a:=[]) (b:=[.ptrT (some 0) (.G [eA 0 l t k d (cT t l)]) 0,.ptrT none (.I .i64 [h]) 0]) rfl rfl rfl hcall rfl rfl rfl
theorem TC:eh (bn Try.f27)=[(.tmp 22,#[23],yU,yV)]:=by kernel_rfl
noncomputable def Kx (l k:Nat) (t d:Nat→Int) (h:Int):AV:=if gH l k t d h=0 then .tup [dK (c8 l t d h) (fP l k t d h (c8 l t d h-1)) (gP l k t d h (c8 l t d h-1)),.int .i64 0] else .tup [.nils,.int .i64 (gH l k t d h)]
theorem Q5:cd (n+12) (.fn 27) [bR l t k d,.int .i64 h] H=some (Kx l k t d h,H):=by
 unfold Kx
 by_cases e:gH l k t d h=0
 · rw[if_pos e]
   obtain ⟨e1,e2⟩:=Cv e
   obtain ⟨hs,h1,h2⟩:=kI e1
   obtain ⟨_,b,_⟩:=lF hs e2
   obtain ⟨T,hT⟩:∃ T,c8 l t d h=T+1:=⟨c8 l t d h-1,by omega⟩
   have hx:=Ul (n+4) l k t d h H hs e2 ⟨h1,h2⟩ T hT
   rw[hT,Nat.add_sub_cancel]
   refine aC (n:=n+11) Try.func27 rfl rfl rfl (TI (n+11) l k t d (cT t l) h T (T+1) (fP l k t d h T) (gP l k t d h T) H) (aQ _ (n+11) (bo (bo (aB _) (fun H=>NY n l k t d H h e)) (fun H=>Rh (n+10) 0 l k t d (cT t l) h H))) (af _ _) (xC (ag _ _) (fun f ps a b _ hm x hx2=>by
    rw[TC] at hm
    simp only[List.mem_cons,Prod.mk.injEq,List.not_mem_nil,or_false] at hm
    obtain ⟨rfl,rfl,rfl,rfl⟩:=hm
    rw[← Tr.ab hx2];exact hx)) ?_
   show Tr.all _ _
   simp only[bJ,Nat.zero_add]
   generalize fP l k t d h T=A at *
   generalize gP l k t d h T=B at *
   exact wF
 · rw[if_neg e]
   refine aC (n:=n+11) Try.func27 rfl rfl rfl (PX (n+11) l k t d h (gH l k t d h) H) (aQ _ (n+11) (bo (aB _) (fun H=>NX n l k t d H h e))) (af _ _) (xC (ag _ _) (fun f ps a b _ hm x hx2=>(Tr.ae hx2).elim)) ?_
   generalize gH l k t d h=N at *
   exact wF
end
end Go.Eng
end
section
namespace Go.Eng
open Go.Proofs
noncomputable def lf (l:Nat) (t:Nat→Int) (k:Nat) (d z:Nat→Int):aV:=⟨false,[II l t k d,(0,.row (.M [.arr .i64 z l]))]⟩
noncomputable def DB (l m:Nat) (f:Nat→Nat→Int) (g:Nat→Nat) (c i:Int):ao:=[(1,dK m f g),(2,.ptr 0 0 0 0),(6,.slc 0 1 0 0 1 l (some l)),(7,.int .i64 c),(8,.int .i64 i)]
noncomputable def qR (l m:Nat) (f:Nat→Nat→Int) (g:Nat→Nat) (c i j:Int):ao:=[(1,dK m f g),(2,.ptr 0 0 0 0),(6,.slc 0 1 0 0 1 l (some l)),(7,.int .i64 c),(8,.int .i64 i),(9,.int .i64 j)]
theorem MO (n l k:Nat) (t d z:Nat→Int) (m:Nat) (f:Nat→Nat→Int) (g:Nat→Nat) (c i j x:Int) (b:Bool) (H:aa):aM (bp n 47 64) (il (tX aD 59 [bR l t k d,.int .i64 (f (au 0 i 1) (au 0 j 1))] (.bool b)) n 0) aK aL (part Try.f47 [1,1,1,1,0,1,0,0,1,0,0,1,0,0]) (hints (qR l m f g c i j)) (lf l t k d z::H) =
 (fun (Z0:Row)=>((fun (Z1:aV)=>((fun (Z2:Nat×AV×Option Nat)=>Tr.req (cN i m) (Tr.req (cw (au 0 i 1) m) (Tr.ite (bQ j (Int.ofNat (g (au 0 i 1)))) (Tr.req (cN i m) (Tr.req (cw (au 0 i 1) m) (Tr.req (cN j (g (au 0 i 1))) (Tr.req (cw (au 0 j 1) (g (au 0 i 1))) (Tr.reqP ([AV.agg Z0,AV.int .i64 (f (au 0 i 1) (au 0 j 1))]=[AV.agg Z0,AV.int .i64 (f (au 0 i 1) (au 0 j 1))]) (Tr.ite (aY b) (Tr.ok (Ex.ret,[(4,AV.nils,none),(5,AV.int .i64 (Int.ofNat 15),some 1)],Z1::H)) (Tr.req (cN (f (au 0 i 1) (au 0 j 1)) l) (Tr.req (cL 0 0) (Tr.req (cw (au 0 (f (au 0 i 1) (au 0 j 1)) 1) l) (Tr.ite (aY (cI (z (au 0 (f (au 0 i 1) (au 0 j 1)) 1)) (Int.ofNat 0))) (Tr.ok (Ex.ret,[(4,AV.nils,none),(5,AV.int .i64 (Int.ofNat 15),some 1)],Z1::H)) (Tr.req (cN (f (au 0 i 1) (au 0 j 1)) l) (Tr.req (cL 0 0) (Tr.req (cw (au 0 (f (au 0 i 1) (au 0 j 1)) 1) l) (Tr.ok (Ex.normal,[Z2,(2,AV.ptr 0 0 0 0,none),(6,AV.slc 0 1 0 0 1 l (some l),none),(7,AV.int .i64 (bG .i64 c (Int.ofNat 1)),none),(8,AV.int .i64 i,none),(9,AV.int .i64 (bG .i64 j (Int.ofNat 1)),none)],{ lock:=false,bs:=[(0,aj.row Z0),(0,aj.row (Row.M [ah.arr .i64 (fO z (au 0 (f (au 0 i 1) (au 0 j 1)) 1) (bG .i64 i (Int.ofNat 1))) l]))] } :: H))))))))))))))) (Tr.ok (Ex.exit 2,[Z2,(2,AV.ptr 0 0 0 0,none),(6,AV.slc 0 1 0 0 1 l (some l),none),(7,AV.int .i64 c,none),(8,AV.int .i64 i,none),(9,AV.int .i64 j,none),(30,AV.bool false,some 1)],Z1::H))))) (1,AV.slcT none (Row.F (fun j=>AV.slcT none (Row.M [ah.arr .i64 (f j) (g j)]) 1 (g j) false) m) 1 m false,none))) { lock:=false,bs:=[(0,aj.row Z0),(0,aj.row (Row.M [ah.arr .i64 z l]))] })) (Row.G [AV.slcT none (Row.M [ah.arr .i64 t l]) 1 l false,AV.slcT none (Row.M [ah.arr .i64 d k]) 1 k false]):=by kernel_rfl
theorem PD (n l k:Nat) (t d z:Nat→Int) (m:Nat) (f:Nat→Nat→Int) (g:Nat→Nat) (c i:Int) (H:aa):aM (bp n 47 64) (il aD n 0) (bX aK 2 [] [] .bad) aL (part Try.f47 [1,1,1,1,0,1,0,0]) (hints (DB l m f g c i)) (lf l t k d z::H) =
 (fun (Z0:aV)=>((fun (Z1:Row)=>Tr.ite (bQ i (Int.ofNat m)) (Tr.reqP ([(1,AV.slcT none Z1 1 m false),(2,AV.ptr 0 0 0 0),(6,AV.slc 0 1 0 0 1 l (some l)),(7,AV.int .i64 c),(8,AV.int .i64 i),(9,AV.int .i64 (Int.ofNat 0))]=[]∧Z0::H=[]) Tr.bad) (Tr.ok (Ex.exit 0,[(1,AV.slcT none Z1 1 m false,none),(2,AV.ptr 0 0 0 0,none),(6,AV.slc 0 1 0 0 1 l (some l),none),(7,AV.int .i64 c,none),(8,AV.int .i64 i,none),(21,AV.bool false,some 1)],Z0::H))) (Row.F (fun j=>AV.slcT none (Row.M [ah.arr .i64 (f j) (g j)]) 1 (g j) false) m))) { lock:=false,bs:=[(0,aj.row (Row.G [AV.slcT none (Row.M [ah.arr .i64 t l]) 1 l false,AV.slcT none (Row.M [ah.arr .i64 d k]) 1 k false])),(0,aj.row (Row.M [ah.arr .i64 z l]))] }:=by kernel_rfl
theorem TO (n l k:Nat) (t d:Nat→Int) (m:Nat) (f:Nat→Nat→Int) (g:Nat→Nat) (H:aa):aX Try.prog (cd n) 100000 47 Try.f47 (KtL.kt 47) (il aD n 0) (bX aK 0 [] [] .bad) aL [(bR l t k d,none),(dK m f g,none)] H =
 Tr.ite (bQ (Int.ofNat 40) (Int.ofNat m)) (Tr.ok ((AV.tup [AV.nils,AV.int .i64 (Int.ofNat 6)],none),H)) (Tr.req (DN (Int.ofNat l) (Int.ofNat l) 8) (Tr.reqP ([(1,AV.slcT none (Row.F (fun j=>AV.slcT none (Row.M [ah.arr .i64 (f j) (g j)]) 1 (g j) false) m) 1 m false),(2,AV.ptr 0 0 0 0),(6,AV.slc 0 1 0 0 1 (dw (Int.ofNat l)) (some (dw (Int.ofNat l)))),(7,AV.int .i64 (Int.ofNat 0)),(8,AV.int .i64 (Int.ofNat 0))]=[]∧{ lock:=false,bs:=[(0,aj.row (Row.G [AV.slcT none (Row.M [ah.arr .i64 t l]) 1 l false,AV.slcT none (Row.M [ah.arr .i64 d k]) 1 k false])),(0,aj.row (Row.M [ah.arr .i64 (fun x=>Int.ofNat 0) (dw (Int.ofNat l))]))] } :: H=[]) Tr.bad)):=by kernel_rfl
def np (l:Nat) (z:Nat→Int) (c:Int):Bool:=!(decide (0≤c) && decide (c<l)) || decide (z c.toNat≠0)
def fp (o:Nat→Int) (T:Int) (z:Nat→Int):Nat→Nat→Int
 | 0=>z
 | j+1=>uI (fp o T z j) (o j).toNat T
section
variable (n l k:Nat) (t d z:Nat→Int) (m:Nat) (f:Nat→Nat→Int) (g:Nat→Nat) (H:aa)
theorem OT (C i:Nat) (hi:i<m) (hm:m≤40) (hg:g i<1000) (hC:C<100000):exec (bp (n+1) 47 64) (.block 2 (.loop (part Try.f47 [1,1,1,1,0,1,0,0,1,0,0,1,0,0]))) (qR l m f g (C:Nat) (i:Nat) ((0:Nat):Int)) (lf l t k d z::H)=some (cond (bV (fun j=>np l (fp (f i) ((i+1:Nat):Int) z j) (f i j)) (g i)) (.ret,[(4,.nils),(5,.int .i64 15)],lf l t k d (fp (f i) ((i+1:Nat):Int) z (fN (fun j=>np l (fp (f i) ((i+1:Nat):Int) z j) (f i j)) (g i) 0))::H) (.normal,qR l m f g ((C+g i:Nat):Int) (i:Nat) (Int.ofNat (g i))++[(30,.bool false)],lf l t k d (fp (f i) ((i+1:Nat):Int) z (g i))::H)):=by
 refine iG (n:=n+1) (f:=47) (nt:=64) (c:=part Try.f47 [1,1,1,1,0,1,0,0,1,0,0,1,0,0]) 2 (fun j=>qR l m f g ((C+j:Nat):Int) (i:Nat) (j:Nat)) (fun j=>lf l t k d (fp (f i) ((i+1:Nat):Int) z j)::H) (g i) (fun j=>np l (fp (f i) ((i+1:Nat):Int) z j) (f i j)) (fun j=>([(4,.nils),(5,.int .i64 15)],lf l t k d (fp (f i) ((i+1:Nat):Int) z j)::H)) _ (by omega) (fun j hj=>?_) ?_
 · refine aH (MO (n+1) l k t d (fp (f i) ((i+1:Nat):Int) z j) m f g ((C+j:Nat):Int) (i:Nat) (j:Nat) 0 (decide (0≤f (au 0 ((i:Nat):Int) 1) (au 0 ((j:Nat):Int) 1)) && decide (f (au 0 ((i:Nat):Int) 1) (au 0 ((j:Nat):Int) 1)<l)) H) (aQ _ (n+1) (bo (aB _) (fun H=>QH n l k t d H _))) (af _ _) (ag _ _) ?_
   show Tr.all _ (fun r=>if np l (fp (f i) ((i+1:Nat):Int) z j) (f i j)=true then _ else _∧tidy _ _ _=(qR l m f g ((C+(j+1):Nat):Int) (i:Nat) ((j+1:Nat):Int),lf l t k d (uI (fp (f i) ((i+1:Nat):Int) z j) (f i j).toNat ((i+1:Nat):Int))::H))
   rw[db (j:=j) (by omega),db (j:=i) (by omega),db (j:=C+j) (by omega)]
   simp only[jB]
   generalize fp (f i) ((i+1:Nat):Int) z j=Z at *
   by_cases hr:0≤f i j∧f i j<l
   · obtain ⟨c,hc⟩:∃ c:Nat,f i j=c:=⟨(f i j).toNat,by omega⟩
     rw[hc] at hr ⊢
     have e1:(decide (0≤(c:Int)) && decide ((c:Int)<l))=true:=by rw[decide_eq_true hr.1,decide_eq_true hr.2];rfl
     rw[Int.toNat_natCast]
     simp only[jB,e1,ue]
     by_cases h0:Z c=0
     · have eb:np l Z (c:Int)=false:=by unfold np;rw[e1,Int.toNat_natCast,decide_eq_false (by simpa using h0)];rfl
       rw[eb]
       simp only[Bool.false_eq_true,if_false]
       generalize uI Z c ((i+1:Nat):Int)=Z2 at *
       exact wF
     · have eb:np l Z (c:Int)=true:=by unfold np;rw[e1,Int.toNat_natCast,decide_eq_true h0];rfl
       rw[eb]
       simp only[if_true]
       exact wF
   · have e1:(decide (0≤f i j) && decide (f i j<l))=false:=by
      cases hx:(decide (0≤f i j) && decide (f i j<l)) with
      | false=>rfl
      | true =>
        simp only[Bool.and_eq_true,decide_eq_true_eq] at hx
        exact absurd hx hr
     have eb:np l Z (f i j)=true:=by unfold np;rw[e1];rfl
     rw[e1,eb]
     simp only[if_true]
     exact wF
 · have hz:∃ Z,Z=fp (f i) ((i+1:Nat):Int) z (g i):=⟨_,rfl⟩
   obtain ⟨Z,hZ⟩:=hz
   have hG:∃ q,q=g i:=⟨_,rfl⟩
   obtain ⟨q,hq⟩:=hG
   obtain ⟨x,hx,rfl⟩:=aH (Q:=fun x=>x=(.exit 2,qR l m f g ((C+q:Nat):Int) (i:Nat) (Int.ofNat q)++[(30,.bool false)],lf l t k d Z::H)) (MO (n+1) l k t d Z m f g ((C+q:Nat):Int) (i:Nat) (Int.ofNat q) 0 (decide (0≤f (au 0 ((i:Nat):Int) 1) (au 0 (Int.ofNat q) 1)) && decide (f (au 0 ((i:Nat):Int) 1) (au 0 (Int.ofNat q) 1)<l)) H) (aQ _ (n+1) (bo (aB _) (fun H=>QH n l k t d H _))) (af _ _) (ag _ _) (by
    have e1:bQ (Int.ofNat q) (Int.ofNat (g i))=false:=by rw[dg,hq];simp
    simp only[jB,e1]
    exact wF
    )
   rw[← hq] at hZ ⊢
   rw[← hZ]
   exact hx
end
end Go.Eng
end
