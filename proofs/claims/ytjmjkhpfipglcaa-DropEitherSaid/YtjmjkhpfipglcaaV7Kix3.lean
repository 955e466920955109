/- Drop: the sort of at most twelve numbers. -/
import Derived.Test.YtjmjkhpfipglcaaV7Kfx3
section
namespace Go.Eng
open Go.Proofs
set_option linter.unusedVariables false
set_option linter.unusedSimpArgs false
set_option maxRecDepth 100000
def Ei (x l:Int):List AV→Option (Prop×AV)
 | [.int .u64 y]=>some (y=x,.int .i64 l)
 | _=>none
noncomputable def fc (p:Int) (mk z:Nat→Int) (s:AV) (v m:Nat):b6:=dh p mk s [(v,.row (.M [.arr .i64 z m]))]
noncomputable def nO (v m:Nat) (i:Int):aO:=[(0,.slc 3 4 v 0 1 m none),(1,.int .i64 0),(2,.int .i64 (Int.ofNat m)),(6,.int .i64 i)]
noncomputable def ku (v m:Nat) (i j:Int):aO:=[(0,.slc 3 4 v 0 1 m none),(1,.int .i64 0),(2,.int .i64 (Int.ofNat m)),(6,.int .i64 i),(7,.int .i64 j)]
theorem Oq (n:Nat) (H:ae) (p:Int) (mk z z2:Nat→Int) (s:AV) (v m:Nat) (lim:Int):aW Try.prog (cd (n+4)) 100000 108 Try.f108 (Kt.kt 108) (il (b7 (sJ aG 113 [.slc 1 4 v 0 1 m none,.int .i64 0,.int .i64 (Int.ofNat m),.int .i64 lim] (af::fc p mk z s v m::H) (.ok (.tup [],af::fc p mk z2 s v m::H))) 114 (Ei (Int.ofNat m) lim)) (n+4) 0) aJ aK [(.slc 0 4 v 0 1 m none,none)] (fc p mk z s v m::H) =
 (fun (Z0:b6)=>((fun (Z1:List AV)=>Tr.reqP (qH IntKind.u64 (Int.ofNat m)=Int.ofNat m) (Tr.reqP (Z1=Z1∧af::Z0::H=af::Z0::H) (Tr.ok ((AV.tup [],none),{ lock:=false,bs:=[(0,aj.row (Row.I .i64 [p])),(0,aj.row (Row.M [aC.arr .i64 mk 12])),(0,aj.row (Row.I .i64 [p])),(0,aj.row (Row.G [s])),(v,aj.row (Row.M [aC.arr .i64 z2 m]))] } :: H)))) [AV.slc 1 4 v 0 1 m none,AV.int .i64 (Int.ofNat 0),AV.int .i64 (Int.ofNat m),AV.int .i64 lim])) { lock:=false,bs:=[(0,aj.row (Row.I .i64 [p])),(0,aj.row (Row.M [aC.arr .i64 mk 12])),(0,aj.row (Row.I .i64 [p])),(0,aj.row (Row.G [s])),(v,aj.row (Row.M [aC.arr .i64 z m]))] }:=by kernel_rfl
theorem Ov (n:Nat) (H:ae) (p:Int) (mk z z2:Nat→Int) (s:AV) (v m:Nat) (lim:Int):aW Try.prog (cd (n+3)) 100000 113 Try.f113 (Kt.kt 113) (il (sJ aG 115 [.slc 2 4 v 0 1 m none,.int .i64 0,.int .i64 (Int.ofNat m)] (af::af::fc p mk z s v m::H) (.ok (.tup [],af::af::fc p mk z2 s v m::H))) (n+3) 0) aJ aK [(.slc 1 4 v 0 1 m none,none),(.int .i64 0,none),(.int .i64 (Int.ofNat m),none),(.int .i64 lim,none)] (af::fc p mk z s v m::H) =
 (fun (Z0:b6)=>Tr.ite (dA (az .i64 (Int.ofNat m) (Int.ofNat 0)) (Int.ofNat 12)) (Tr.reqP ([AV.slc 2 4 v 0 1 m none,AV.int .i64 (Int.ofNat 0),AV.int .i64 (Int.ofNat m)]=[AV.slc 2 4 v 0 1 m none,AV.int .i64 (Int.ofNat 0),AV.int .i64 (Int.ofNat m)]∧af::af::Z0::H=af::af::Z0::H) (Tr.ok ((AV.tup [],none),af::{ lock:=false,bs:=[(0,aj.row (Row.I .i64 [p])),(0,aj.row (Row.M [aC.arr .i64 mk 12])),(0,aj.row (Row.I .i64 [p])),(0,aj.row (Row.G [s])),(v,aj.row (Row.M [aC.arr .i64 z2 m]))] } :: H))) (Tr.ite (aF lim (Int.ofNat 0)) Tr.bad Tr.bad)) { lock:=false,bs:=[(0,aj.row (Row.I .i64 [p])),(0,aj.row (Row.M [aC.arr .i64 mk 12])),(0,aj.row (Row.I .i64 [p])),(0,aj.row (Row.G [s])),(v,aj.row (Row.M [aC.arr .i64 z m]))] }:=by kernel_rfl
theorem Ow (n:Nat) (H:ae) (p:Int) (mk z z2:Nat→Int) (s:AV) (v m:Nat) (i2:Int):aW Try.prog (cd (n+2)) 100000 115 Try.f115 (Kt.kt 115) (il aG n 2) (dc aJ 0 (nO v m (ay .i64 0 1)) (af::af::af::fc p mk z s v m::H) (.ok (.normal,hints (nO v m i2++[(12,.bool false)]),af::af::af::fc p mk z2 s v m::H))) aK [(.slc 2 4 v 0 1 m none,none),(.int .i64 0,none),(.int .i64 (Int.ofNat m),none)] (af::af::fc p mk z s v m::H) =
 (fun (Z0:b6)=>((fun (Z1:aO)=>Tr.reqP (Z1=Z1∧af::af::af::Z0::H=af::af::af::Z0::H) (Tr.ok ((AV.tup [],none),af::af::{ lock:=false,bs:=[(0,aj.row (Row.I .i64 [p])),(0,aj.row (Row.M [aC.arr .i64 mk 12])),(0,aj.row (Row.I .i64 [p])),(0,aj.row (Row.G [s])),(v,aj.row (Row.M [aC.arr .i64 z2 m]))] } :: H))) [(0,AV.slc 3 4 v 0 1 m none),(1,AV.int .i64 (Int.ofNat 0)),(2,AV.int .i64 (Int.ofNat m)),(6,AV.int .i64 (ay .i64 (Int.ofNat 0) (Int.ofNat 1)))])) { lock:=false,bs:=[(0,aj.row (Row.I .i64 [p])),(0,aj.row (Row.M [aC.arr .i64 mk 12])),(0,aj.row (Row.I .i64 [p])),(0,aj.row (Row.G [s])),(v,aj.row (Row.M [aC.arr .i64 z m]))] }:=by kernel_rfl
theorem KH (n:Nat) (H:ae) (p:Int) (mk z z2:Nat→Int) (s:AV) (v m:Nat) (i j2:Int):aH (bF (n+2) 115 49) (il aG n 2) (dc aJ 2 (ku v m i i) (af::af::af::fc p mk z s v m::H) (.ok (.normal,hints (ku v m i j2++[(30,.bool false)]),af::af::af::fc p mk z2 s v m::H))) aK (part Try.f115 [1,0,0]) (hints (nO v m i)) (af::af::af::fc p mk z s v m::H) =
 (fun (Z0:b6)=>((fun (Z1:aO)=>Tr.ite (bA i (Int.ofNat m)) (Tr.reqP (Z1=Z1∧af::af::af::Z0::H=af::af::af::Z0::H) (Tr.ok (Ex.normal,[(0,AV.slc 3 4 v 0 1 m none,none),(1,AV.int .i64 (Int.ofNat 0),none),(2,AV.int .i64 (Int.ofNat m),none),(6,AV.int .i64 (ay .i64 i (Int.ofNat 1)),none)],af::af::af::{ lock:=false,bs:=[(0,aj.row (Row.I .i64 [p])),(0,aj.row (Row.M [aC.arr .i64 mk 12])),(0,aj.row (Row.I .i64 [p])),(0,aj.row (Row.G [s])),(v,aj.row (Row.M [aC.arr .i64 z2 m]))] } :: H))) (Tr.ok (Ex.exit 0,[(0,AV.slc 3 4 v 0 1 m none,none),(1,AV.int .i64 (Int.ofNat 0),none),(2,AV.int .i64 (Int.ofNat m),none),(6,AV.int .i64 i,none),(12,AV.bool false,some 1)],af::af::af::Z0::H))) [(0,AV.slc 3 4 v 0 1 m none),(1,AV.int .i64 (Int.ofNat 0)),(2,AV.int .i64 (Int.ofNat m)),(6,AV.int .i64 i),(7,AV.int .i64 i)])) { lock:=false,bs:=[(0,aj.row (Row.I .i64 [p])),(0,aj.row (Row.M [aC.arr .i64 mk 12])),(0,aj.row (Row.I .i64 [p])),(0,aj.row (Row.G [s])),(v,aj.row (Row.M [aC.arr .i64 z m]))] }:=by kernel_rfl
theorem KG (n:Nat) (H:ae) (p:Int) (mk z:Nat→Int) (s:AV) (v m:Nat) (i:Int):aH (bF (n+2) 115 49) (il aG n 2) (fY aJ 2) aK (part Try.f115 [1,0,0]) (hints (nO v m i)) (af::af::af::fc p mk z s v m::H) =
 Tr.ite (bA i (Int.ofNat m)) Tr.bad (Tr.ok (Ex.exit 0,[(0,AV.slc 3 4 v 0 1 m none,none),(1,AV.int .i64 (Int.ofNat 0),none),(2,AV.int .i64 (Int.ofNat m),none),(6,AV.int .i64 i,none),(12,AV.bool false,some 1)],af::af::af::{ lock:=false,bs:=[(0,aj.row (Row.I .i64 [p])),(0,aj.row (Row.M [aC.arr .i64 mk 12])),(0,aj.row (Row.I .i64 [p])),(0,aj.row (Row.G [s])),(v,aj.row (Row.M [aC.arr .i64 z m]))] } :: H)):=by kernel_rfl
theorem Dg (n:Nat) (H:ae) (p:Int) (mk z:Nat→Int) (s:AV) (v m:Nat) (i j:Int):aH (bF (n+2) 115 49) (il aG n 2) aJ aK (part Try.f115 [1,0,0,1,0,0,1,0,0]) (hints (ku v m i j)) (af::af::af::fc p mk z s v m::H) =
 (fun (Z0:b6)=>((fun (Z1:b6)=>((fun (Z2:a8)=>((fun (Z3:a8)=>Tr.ite (bA (Int.ofNat 0) j) (Tr.req (br j m) (Tr.req (dH v v) (Tr.req (bt (al 0 j 1) m) (Tr.req (br (az .i64 j (Int.ofNat 1)) m) (Tr.req (dH v v) (Tr.req (bt (al 0 (az .i64 j (Int.ofNat 1)) 1) m) (Tr.ite (aD (aF (z (al 0 j 1)) (z (al 0 j 1)))) (Tr.ite (aD (aD (aF (z (al 0 (az .i64 j (Int.ofNat 1)) 1)) (z (al 0 (az .i64 j (Int.ofNat 1)) 1))))) (Tr.req (br (az .i64 j (Int.ofNat 1)) m) (Tr.req (dH v v) (Tr.req (bt (al 0 (az .i64 j (Int.ofNat 1)) 1) m) (Tr.req (br j m) (Tr.req (dH v v) (Tr.req (bt (al 0 j 1) m) (Tr.req (br j m) (Tr.req (dH v v) (Tr.req (bt (al 0 j 1) m) (Tr.req (cX (cB v v) (cB v (Nat.succ v))) (Tr.req (br (az .i64 j (Int.ofNat 1)) m) (Tr.req (dH v v) (Tr.req (bt (al 0 (az .i64 j (Int.ofNat 1)) 1) m) (Tr.req (cX (cB v v) (cB v (Nat.succ v))) (Tr.ok (Ex.normal,Z3,af::af::af::Z0::H)))))))))))))))) (Tr.ite (bA (z (al 0 j 1)) (z (al 0 (az .i64 j (Int.ofNat 1)) 1))) (Tr.req (br (az .i64 j (Int.ofNat 1)) m) (Tr.req (dH v v) (Tr.req (bt (al 0 (az .i64 j (Int.ofNat 1)) 1) m) (Tr.req (br j m) (Tr.req (dH v v) (Tr.req (bt (al 0 j 1) m) (Tr.req (br j m) (Tr.req (dH v v) (Tr.req (bt (al 0 j 1) m) (Tr.req (cX (cB v v) (cB v (Nat.succ v))) (Tr.req (br (az .i64 j (Int.ofNat 1)) m) (Tr.req (dH v v) (Tr.req (bt (al 0 (az .i64 j (Int.ofNat 1)) 1) m) (Tr.req (cX (cB v v) (cB v (Nat.succ v))) (Tr.ok (Ex.normal,Z3,af::af::af::Z0::H)))))))))))))))) (Tr.ok (Ex.exit 2,Z2,af::af::af::Z1::H)))) (Tr.ite (bA (z (al 0 j 1)) (z (al 0 (az .i64 j (Int.ofNat 1)) 1))) (Tr.req (br (az .i64 j (Int.ofNat 1)) m) (Tr.req (dH v v) (Tr.req (bt (al 0 (az .i64 j (Int.ofNat 1)) 1) m) (Tr.req (br j m) (Tr.req (dH v v) (Tr.req (bt (al 0 j 1) m) (Tr.req (br j m) (Tr.req (dH v v) (Tr.req (bt (al 0 j 1) m) (Tr.req (cX (cB v v) (cB v (Nat.succ v))) (Tr.req (br (az .i64 j (Int.ofNat 1)) m) (Tr.req (dH v v) (Tr.req (bt (al 0 (az .i64 j (Int.ofNat 1)) 1) m) (Tr.req (cX (cB v v) (cB v (Nat.succ v))) (Tr.ok (Ex.normal,Z3,af::af::af::Z0::H)))))))))))))))) (Tr.ok (Ex.exit 2,Z2,af::af::af::Z1::H)))))))))) (Tr.ok (Ex.exit 2,Z2,af::af::af::Z1::H))) [(0,AV.slc 3 4 v 0 1 m none,none),(1,AV.int .i64 (Int.ofNat 0),none),(2,AV.int .i64 (Int.ofNat m),none),(6,AV.int .i64 i,none),(7,AV.int .i64 (az .i64 j (Int.ofNat 1)),none)])) [(0,AV.slc 3 4 v 0 1 m none,none),(1,AV.int .i64 (Int.ofNat 0),none),(2,AV.int .i64 (Int.ofNat m),none),(6,AV.int .i64 i,none),(7,AV.int .i64 j,none),(30,AV.bool false,some 1)])) { lock:=false,bs:=[(0,aj.row (Row.I .i64 [p])),(0,aj.row (Row.M [aC.arr .i64 mk 12])),(0,aj.row (Row.I .i64 [p])),(0,aj.row (Row.G [s])),(v,aj.row (Row.M [aC.arr .i64 z m]))] })) { lock:=false,bs:=[(0,aj.row (Row.I .i64 [p])),(0,aj.row (Row.M [aC.arr .i64 mk 12])),(0,aj.row (Row.I .i64 [p])),(0,aj.row (Row.G [s])),(v,aj.row (Row.M [aC.arr .i64 (fO (fO z (al 0 j 1) (z (al 0 (az .i64 j (Int.ofNat 1)) 1))) (al 0 (az .i64 j (Int.ofNat 1)) 1) (z (al 0 j 1))) m]))] }:=by kernel_rfl
noncomputable def An (z:Nat→Int) (j:Nat):Nat→Int:=fO (fO z j (z (j-1))) (j-1) (z j)
noncomputable def kR (z:Nat→Int):Nat→Nat→Int
 | 0=>z
 | j+1=>if z (j+1)<z j then kR (An z (j+1)) j else z
noncomputable def fZ (z:Nat→Int):Nat→Nat→Int
 | 0=>z
 | k+1=>kR (fZ z k) (k+1)
section
variable (n:Nat) (H:ae) (p:Int) (mk z:Nat→Int) (s:AV) (v m:Nat)
theorem IS:∀ b,(0,b) ∈ av (aL Try.f115)→b=.loop (part Try.f115 [1,0,0]):=by
 have:((av (aL Try.f115)).filter fun x=>Nat.beq x.1 0)=[(0,.loop (part Try.f115 [1,0,0]))]:=by kernel_rfl
 intro b hb
 have hm:(0,b) ∈ ((av (aL Try.f115)).filter fun x=>Nat.beq x.1 0):=List.mem_filter.2 ⟨hb,rfl⟩
 rw[this] at hm;simpa using hm
theorem IT:∀ b,(2,b) ∈ av (part Try.f115 [1,0,0])→b=.loop (part Try.f115 [1,0,0,1,0,0,1,0,0]):=by
 have:((av (part Try.f115 [1,0,0])).filter fun x=>Nat.beq x.1 2)=[(2,.loop (part Try.f115 [1,0,0,1,0,0,1,0,0]))]:=by kernel_rfl
 intro b hb
 have hm:(2,b) ∈ ((av (part Try.f115 [1,0,0])).filter fun x=>Nat.beq x.1 2):=List.mem_filter.2 ⟨hb,rfl⟩
 rw[this] at hm;simpa using hm
theorem JO (i:Nat) (hi:i<m) (hm:m≤100):∃ y:aO×ae,exec (bF (n+2) 115 49) (.block 2 (.loop (part Try.f115 [1,0,0,1,0,0,1,0,0]))) (ku v m i i) (af::af::af::fc p mk z s v m::H)=some (.normal,y)∧∃ j2:Int,y=(ku v m i j2++[(30,.bool false)],af::af::af::fc p mk (kR z i) s v m::H):=by
 refine JU (n:=n+2) (f:=115) (nt:=49) (c:=part Try.f115 [1,0,0,1,0,0,1,0,0]) 2 (fun k fr G=>∃ (z':Nat→Int) (j:Nat),j+k=i∧fr=ku v m i j∧G=af::af::af::fc p mk z' s v m::H∧kR z' j=kR z i) _ (i+1) (by omega) ⟨z,i,by omega,rfl,rfl,rfl⟩ (fun k fr G hI=>?_)
 obtain ⟨z',j,h1,rfl,rfl,h2⟩:=hI
 rw[← h2]
 cases j with
 | zero =>
   obtain ⟨x,hx1,hx2⟩:=bz (Q:=fun x=>x=(.exit 2,ku v m i ((0:Nat):Int)++[(30,.bool false)],af::af::af::fc p mk z' s v m::H)) (Dg n H p mk z' s v m (i:Int) ((0:Nat):Int)) (bU n 2) (ah _ _) (ai _ _) (by
    repeat' first | (refine Tr.an (fun hc=>?_) (fun hc=>?_)<;>(try simp (disch:=omega) only[nV,nW] at hc)<;>try omega) | (refine Tr.ao ?_ ?_;· (try simp (disch:=omega) only[nV,nW]);try omega) | (refine Tr.ak ?_ ?_;· first | exact trivial | rfl | exact ⟨rfl,rfl⟩ | exact ⟨rfl,rfl,rfl⟩ | (simp (disch:=omega) only[nV,nW];done) | ((try simp (disch:=omega) only[nV,nW]);omega)) | fail
    exact Tr.aq rfl)
   exact ⟨x,hx1,.inr (by rw[hx2];exact ⟨rfl,_,rfl⟩)⟩
 | succ j =>
   have es:az .i64 ((j+1:Nat):Int) (Int.ofNat 1)=(j:Int):=by rw[aQ,show Int.ofNat 1=1 from rfl,bX (by omega) (by omega)];omega
   have ed:al 0 ((j+1:Nat):Int) 1=j+1:=by rw[bT];omega
   have ee:al 0 (j:Int) 1=j:=by rw[bT];omega
   have eu:fO (fO z' (j+1) (z' j)) j (z' (j+1))=An z' (j+1):=rfl
   by_cases hlt:z' (j+1)<z' j
   · obtain ⟨x,hx1,hx2⟩:=bz (Q:=fun x=>x.1=.normal∧tidy 0 x.2.1 x.2.2=(ku v m i (j:Int),af::af::af::fc p mk (An z' (j+1)) s v m::H)) (Dg n H p mk z' s v m (i:Int) ((j+1:Nat):Int)) (bU n 2) (ah _ _) (ai _ _) (by
      rw[es,ed,ee,eu]
      repeat' first | (refine Tr.an (fun hc=>?_) (fun hc=>?_)<;>(try simp (disch:=omega) only[nV,nW] at hc)<;>try omega) | (refine Tr.ao ?_ ?_;· (try simp (disch:=omega) only[nV,nW]);try omega) | (refine Tr.ak ?_ ?_;· first | exact trivial | rfl | exact ⟨rfl,rfl⟩ | exact ⟨rfl,rfl,rfl⟩ | (simp (disch:=omega) only[nV,nW];done) | ((try simp (disch:=omega) only[nV,nW]);omega)) | fail
      all_goals exact Tr.aq ⟨rfl,rfl⟩)
     refine ⟨x,hx1,.inl ⟨hx2.1,by omega,An z' (j+1),j,by omega,?_,?_,?_⟩⟩
     · have:=congrArg Prod.fst hx2.2
       exact this
     · have:=congrArg Prod.snd hx2.2
       exact this
     · show _=(if z' (j+1)<z' j then kR (An z' (j+1)) j else z')
       rw[if_pos hlt]
   · obtain ⟨x,hx1,hx2⟩:=bz (Q:=fun x=>x=(.exit 2,ku v m i ((j+1:Nat):Int)++[(30,.bool false)],af::af::af::fc p mk z' s v m::H)) (Dg n H p mk z' s v m (i:Int) ((j+1:Nat):Int)) (bU n 2) (ah _ _) (ai _ _) (by
      rw[es,ed,ee,eu]
      repeat' first | (refine Tr.an (fun hc=>?_) (fun hc=>?_)<;>(try simp (disch:=omega) only[nV,nW] at hc)<;>try omega) | (refine Tr.ao ?_ ?_;· (try simp (disch:=omega) only[nV,nW]);try omega) | (refine Tr.ak ?_ ?_;· first | exact trivial | rfl | exact ⟨rfl,rfl⟩ | exact ⟨rfl,rfl,rfl⟩ | (simp (disch:=omega) only[nV,nW];done) | ((try simp (disch:=omega) only[nV,nW]);omega)) | fail
      all_goals exact Tr.aq rfl)
     refine ⟨x,hx1,.inr ?_⟩
     rw[hx2]
     refine ⟨rfl,((j+1:Nat):Int),?_⟩
     rw[show kR z' (j+1)=(if z' (j+1)<z' j then kR (An z' (j+1)) j else z') from rfl,if_neg hlt]
theorem Nq (h1:1≤m) (hm:m≤100):exec (bF (n+2) 115 49) (.block 0 (.loop (part Try.f115 [1,0,0]))) (nO v m ((1:Nat):Int)) (af::af::af::fc p mk z s v m::H)=some (.normal,nO v m ((m:Nat):Int)++[(12,.bool false)],af::af::af::fc p mk (fZ z (m-1)) s v m::H):=by
 have:=uE (n:=n+2) (f:=115) (nt:=49) (c:=part Try.f115 [1,0,0]) 0 (fun k=>nO v m ((k+1:Nat):Int)) (fun k=>af::af::af::fc p mk (fZ z k) s v m::H) (m-1) (nO v m ((m:Nat):Int)++[(12,.bool false)],af::af::af::fc p mk (fZ z (m-1)) s v m::H) (by omega) (fun k hk=>?_) ?_
 · exact this
 · obtain ⟨y,hy,j2,rfl⟩:=JO n H p mk (fZ z k) s v m (k+1) (by omega) hm
   have ej:ay .i64 ((k+1:Nat):Int) (Int.ofNat 1)=((k+1+1:Nat):Int):=by rw[aR,show Int.ofNat 1=1 from rfl];exact bX (by omega) (by omega)
   refine bz (KH n H p mk (fZ z k) (fZ z (k+1)) s v m ((k+1:Nat):Int) j2) (bU n 2) (bf (ah _ _) IT (fun x hx=>by rw[← Tr.ab hx];simp only[dg.st,aw];exact hy)) (ai _ _) ?_
   rw[ej]
   repeat' first | (refine Tr.an (fun hc=>?_) (fun hc=>?_)<;>(try simp (disch:=omega) only[nV,nW] at hc)<;>try omega) | (refine Tr.ao ?_ ?_;· (try simp (disch:=omega) only[nV,nW]);try omega) | (refine Tr.ak ?_ ?_;· first | exact trivial | rfl | exact ⟨rfl,rfl⟩ | exact ⟨rfl,rfl,rfl⟩ | (simp (disch:=omega) only[nV,nW];done) | ((try simp (disch:=omega) only[nV,nW]);omega)) | fail
   exact Tr.aq ⟨rfl,rfl⟩
 · have e:((m-1+1:Nat):Int)=(m:Int):=by omega
   rw[e]
   obtain ⟨x,h1,rfl⟩:=bz (Q:=fun x=>x=(.exit 0,nO v m ((m:Nat):Int)++[(12,.bool false)],af::af::af::fc p mk (fZ z (m-1)) s v m::H)) (KG n H p mk (fZ z (m-1)) s v m (m:Int)) (bU n 2) (cN (ah _ _) 2) (ai _ _) (by
    repeat' first | (refine Tr.an (fun hc=>?_) (fun hc=>?_)<;>(try simp (disch:=omega) only[nV,nW] at hc)<;>try omega) | (refine Tr.ao ?_ ?_;· (try simp (disch:=omega) only[nV,nW]);try omega) | (refine Tr.ak ?_ ?_;· first | exact trivial | rfl | exact ⟨rfl,rfl⟩ | exact ⟨rfl,rfl,rfl⟩ | (simp (disch:=omega) only[nV,nW];done) | ((try simp (disch:=omega) only[nV,nW]);omega)) | fail
    exact Tr.aq rfl)
   exact h1
theorem LV (h1:1≤m) (hm:m≤100):cd (n+3) (.fn 115) [.slc 2 4 v 0 1 m none,.int .i64 0,.int .i64 (Int.ofNat m)] (af::af::fc p mk z s v m::H)=some (.tup [],af::af::fc p mk (fZ z (m-1)) s v m::H):=by
 have l:=Nq n H p mk z s v m h1 hm
 have e1:ay .i64 0 1=((1:Nat):Int):=by rw[aR];rfl
 refine bp (n:=n+2) Try.func115 rfl rfl rfl (Ow n H p mk z (fZ z (m-1)) s v m ((m:Nat):Int)) (bU n 2) (bf (ah _ _) IS (fun x hx=>by rw[← Tr.ab hx,e1];simp only[dg.st,aw];exact l)) (ai _ _) ?_
 repeat' first | (refine Tr.an (fun hc=>?_) (fun hc=>?_)<;>(try simp (disch:=omega) only[nV,nW] at hc)<;>try omega) | (refine Tr.ao ?_ ?_;· (try simp (disch:=omega) only[nV,nW]);try omega) | (refine Tr.ak ?_ ?_;· first | exact trivial | rfl | exact ⟨rfl,rfl⟩ | exact ⟨rfl,rfl,rfl⟩ | (simp (disch:=omega) only[nV,nW];done) | ((try simp (disch:=omega) only[nV,nW]);omega)) | fail
 exact Tr.aq ⟨rfl,rfl⟩
theorem LS (h1:1≤m) (hm:m≤12) (lim:Int):cd (n+4) (.fn 113) [.slc 1 4 v 0 1 m none,.int .i64 0,.int .i64 (Int.ofNat m),.int .i64 lim] (af::fc p mk z s v m::H)=some (.tup [],af::fc p mk (fZ z (m-1)) s v m::H):=by
 refine bp (n:=n+3) Try.func113 rfl rfl rfl (Ov n H p mk z (fZ z (m-1)) s v m lim) (bQ _ (n+3) 0 (fun k=>fG (bB _) (fun x hx=>?_))) (ah _ _) (ai _ _) ?_
 · rw[← Tr.ab hx,show n+3+k=n+k+3 by omega]
   exact LV (n+k) H p mk z s v m h1 (by omega)
 · repeat' first | (refine Tr.an (fun hc=>?_) (fun hc=>?_)<;>(try simp (disch:=omega) only[nV,nW] at hc)<;>try omega) | (refine Tr.ao ?_ ?_;· (try simp (disch:=omega) only[nV,nW]);try omega) | (refine Tr.ak ?_ ?_;· first | exact trivial | rfl | exact ⟨rfl,rfl⟩ | exact ⟨rfl,rfl,rfl⟩ | (simp (disch:=omega) only[nV,nW];done) | ((try simp (disch:=omega) only[nV,nW]);omega)) | fail
   exact Tr.aq ⟨rfl,rfl⟩
def mY (x:Nat):Int:=if x<2 then 1 else if x<4 then 2 else if x<8 then 3 else 4
theorem BT (n:Nat) (H:ae):cd (n+3) (.fn 114) [.int .u64 (Int.ofNat 1)] H=some (.int .i64 (mY 1),H):=by kernel_rfl
theorem GJ (n:Nat) (H:ae):cd (n+3) (.fn 114) [.int .u64 (Int.ofNat 2)] H=some (.int .i64 (mY 2),H):=by kernel_rfl
theorem GK (n:Nat) (H:ae):cd (n+3) (.fn 114) [.int .u64 (Int.ofNat 3)] H=some (.int .i64 (mY 3),H):=by kernel_rfl
theorem GL (n:Nat) (H:ae):cd (n+3) (.fn 114) [.int .u64 (Int.ofNat 4)] H=some (.int .i64 (mY 4),H):=by kernel_rfl
theorem GM (n:Nat) (H:ae):cd (n+3) (.fn 114) [.int .u64 (Int.ofNat 5)] H=some (.int .i64 (mY 5),H):=by kernel_rfl
theorem GN (n:Nat) (H:ae):cd (n+3) (.fn 114) [.int .u64 (Int.ofNat 6)] H=some (.int .i64 (mY 6),H):=by kernel_rfl
theorem GO (n:Nat) (H:ae):cd (n+3) (.fn 114) [.int .u64 (Int.ofNat 7)] H=some (.int .i64 (mY 7),H):=by kernel_rfl
theorem GP (n:Nat) (H:ae):cd (n+3) (.fn 114) [.int .u64 (Int.ofNat 8)] H=some (.int .i64 (mY 8),H):=by kernel_rfl
theorem GQ (n:Nat) (H:ae):cd (n+3) (.fn 114) [.int .u64 (Int.ofNat 9)] H=some (.int .i64 (mY 9),H):=by kernel_rfl
theorem D1 (n:Nat) (H:ae):cd (n+3) (.fn 114) [.int .u64 (Int.ofNat 10)] H=some (.int .i64 (mY 10),H):=by kernel_rfl
theorem D2 (n:Nat) (H:ae):cd (n+3) (.fn 114) [.int .u64 (Int.ofNat 11)] H=some (.int .i64 (mY 11),H):=by kernel_rfl
theorem D3 (n:Nat) (H:ae):cd (n+3) (.fn 114) [.int .u64 (Int.ofNat 12)] H=some (.int .i64 (mY 12),H):=by kernel_rfl
theorem LU (x:Nat) (hx:1≤x∧x≤12) (n:Nat) (H:ae):cd (n+3) (.fn 114) [.int .u64 (Int.ofNat x)] H=some (.int .i64 (mY x),H):=by
 have:x=1∨x=2∨x=3∨x=4∨x=5∨x=6∨x=7∨x=8∨x=9∨x=10∨x=11∨x=12:=by omega
 rcases this with rfl | rfl | rfl | rfl | rfl | rfl | rfl | rfl | rfl | rfl | rfl | rfl
 · exact BT n H
 · exact GJ n H
 · exact GK n H
 · exact GL n H
 · exact GM n H
 · exact GN n H
 · exact GO n H
 · exact GP n H
 · exact GQ n H
 · exact D1 n H
 · exact D2 n H
 · exact D3 n H
theorem LQ (h1:1≤m) (hm:m≤12):cd (n+5) (.fn 108) [.slc 0 4 v 0 1 m none] (fc p mk z s v m::H)=some (.tup [],fc p mk (fZ z (m-1)) s v m::H):=by
 have ew:qH .u64 (Int.ofNat m)=Int.ofNat m:=by
  rw[sH]
  simp only[IntKind.wrap,IntKind.signed,IntKind.bits]
  simp
  omega
 refine bp (n:=n+4) Try.func108 rfl rfl rfl (Oq n H p mk z (fZ z (m-1)) s v m (mY m)) (bQ _ (n+4) 0 (fun k=>bI (fG (bB _) (fun x hx=>?_)) (fun args p' v' hg hp H=>?_))) (ah _ _) (ai _ _) ?_
 · rw[← Tr.ab hx,show n+4+k=n+k+4 by omega]
   exact LS (n+k) H p mk z s v m h1 hm _
 · unfold Ei at hg
   split at hg
   · simp only[nP] at hg
     obtain ⟨rfl,rfl⟩:=hg
     subst hp
     rw[show n+4+k=n+1+k+3 by omega]
     exact LU m ⟨h1,hm⟩ _ H
   · cases hg
 · rw[ew]
   refine Tr.ak rfl (Tr.ak ⟨rfl,rfl⟩ (Tr.aq ⟨rfl,rfl⟩))
end
end Go.Eng
end
section
namespace Go.Eng
open Go.Proofs
set_option linter.unusedVariables false
set_option linter.unusedSimpArgs false
set_option maxRecDepth 100000
noncomputable def pq:AV:=.slc 0 2 0 0 1 1 (some 1)
noncomputable def oV (i:Int):aO:=[(0,.slc 3 2 0 0 1 1 (some 1)),(1,.int .i64 0),(2,.int .i64 1),(6,.int .i64 i)]
theorem Lh (n:Nat) (H:ae) (p:Int) (mk:Nat→Int) (i2:Int):aW Try.prog (cd (n+2)) 100000 115 Try.f115 (Kt.kt 115) (il aG n 2) (dc aJ 0 (oV (ay .i64 0 1)) (af::af::af::dh p mk pq []::H) (.ok (.normal,hints (oV i2++[(12,.bool false)]),af::af::af::dh p mk pq []::H))) aK [(.slc 2 2 0 0 1 1 (some 1),none),(.int .i64 0,none),(.int .i64 1,none)] (af::af::dh p mk pq []::H) =
 (fun (Z0:b6)=>((fun (Z1:aO)=>Tr.reqP (Z1=Z1∧af::af::af::Z0::H=af::af::af::Z0::H) (Tr.ok ((AV.tup [],none),af::af::Z0::H))) [(0,AV.slc 3 2 0 0 1 1 (some 1)),(1,AV.int .i64 (Int.ofNat 0)),(2,AV.int .i64 (Int.ofNat 1)),(6,AV.int .i64 (ay .i64 (Int.ofNat 0) (Int.ofNat 1)))])) { lock:=false,bs:=[(0,aj.row (Row.I .i64 [p])),(0,aj.row (Row.M [aC.arr .i64 mk 12])),(0,aj.row (Row.I .i64 [p])),(0,aj.row (Row.G [AV.slc 0 2 0 0 1 1 (some 1)]))] }:=by kernel_rfl
theorem KI (n:Nat) (H:ae) (p:Int) (mk:Nat→Int) (i:Int):aH (bF (n+2) 115 49) (il aG n 2) (fY aJ 2) aK (part Try.f115 [1,0,0]) (hints (oV i)) (af::af::af::dh p mk pq []::H) =
 Tr.ite (bA i (Int.ofNat 1)) Tr.bad (Tr.ok (Ex.exit 0,[(0,AV.slc 3 2 0 0 1 1 (some 1),none),(1,AV.int .i64 (Int.ofNat 0),none),(2,AV.int .i64 (Int.ofNat 1),none),(6,AV.int .i64 i,none),(12,AV.bool false,some 1)],af::af::af::{ lock:=false,bs:=[(0,aj.row (Row.I .i64 [p])),(0,aj.row (Row.M [aC.arr .i64 mk 12])),(0,aj.row (Row.I .i64 [p])),(0,aj.row (Row.G [AV.slc 0 2 0 0 1 1 (some 1)]))] } :: H)):=by kernel_rfl
theorem Lg (n:Nat) (H:ae) (p:Int) (mk:Nat→Int) (lim:Int):aW Try.prog (cd (n+3)) 100000 113 Try.f113 (Kt.kt 113) (il (sJ aG 115 [.slc 2 2 0 0 1 1 (some 1),.int .i64 0,.int .i64 1] (af::af::dh p mk pq []::H) (.ok (.tup [],af::af::dh p mk pq []::H))) (n+3) 0) aJ aK [(.slc 1 2 0 0 1 1 (some 1),none),(.int .i64 0,none),(.int .i64 1,none),(.int .i64 lim,none)] (af::dh p mk pq []::H) =
 (fun (Z0:b6)=>Tr.ite (dA (az .i64 (Int.ofNat 1) (Int.ofNat 0)) (Int.ofNat 12)) (Tr.reqP ([AV.slc 2 2 0 0 1 1 (some 1),AV.int .i64 (Int.ofNat 0),AV.int .i64 (Int.ofNat 1)]=[AV.slc 2 2 0 0 1 1 (some 1),AV.int .i64 (Int.ofNat 0),AV.int .i64 (Int.ofNat 1)]∧af::af::Z0::H=af::af::Z0::H) (Tr.ok ((AV.tup [],none),af::Z0::H))) (Tr.ite (aF lim (Int.ofNat 0)) Tr.bad Tr.bad)) { lock:=false,bs:=[(0,aj.row (Row.I .i64 [p])),(0,aj.row (Row.M [aC.arr .i64 mk 12])),(0,aj.row (Row.I .i64 [p])),(0,aj.row (Row.G [AV.slc 0 2 0 0 1 1 (some 1)]))] }:=by kernel_rfl
theorem La (n:Nat) (H:ae) (p:Int) (mk:Nat→Int) (lim:Int):aW Try.prog (cd (n+4)) 100000 108 Try.f108 (Kt.kt 108) (il (b7 (sJ aG 113 [.slc 1 2 0 0 1 1 (some 1),.int .i64 0,.int .i64 1,.int .i64 lim] (af::dh p mk pq []::H) (.ok (.tup [],af::dh p mk pq []::H))) 114 (Ei 1 lim)) (n+4) 0) aJ aK [(pq,none)] (dh p mk pq []::H) =
 (fun (Z0:b6)=>((fun (Z1:List AV)=>Tr.reqP (qH IntKind.u64 (Int.ofNat 1)=Int.ofNat 1) (Tr.reqP (Z1=Z1∧af::Z0::H=af::Z0::H) (Tr.ok ((AV.tup [],none),Z0::H)))) [AV.slc 1 2 0 0 1 1 (some 1),AV.int .i64 (Int.ofNat 0),AV.int .i64 (Int.ofNat 1),AV.int .i64 lim])) { lock:=false,bs:=[(0,aj.row (Row.I .i64 [p])),(0,aj.row (Row.M [aC.arr .i64 mk 12])),(0,aj.row (Row.I .i64 [p])),(0,aj.row (Row.G [AV.slc 0 2 0 0 1 1 (some 1)]))] }:=by kernel_rfl
theorem OZ (n:Nat) (tk:Nat) (w:Int) (ls ld:Nat) (zs zd sz kd mk mk2:Nat→Int) (H:ae) (p i2:Int) (sure:Bool):aW Try.prog (cd (n+5)) 100000 88 Try.f88 (Kt.kt 88) (il (sJ aG 108 [pq] (dh p mk2 pq []::H) (.ok (.tup [],dh p mk2 pq []::H))) (n+5) 0) (dc aJ 0 (n9 tk w ls ld zs zd sz kd sure 0) (dh p mk pq []::H) (.ok (.normal,hints (n9 tk w ls ld zs zd sz kd sure i2++[(21,.bool false)]),dh p mk2 pq []::H))) aK [(a9 tk w ls ld zs zd sz kd,none),(.int .i64 p,none),(.bool sure,none)] H =
 (fun (Z0:aO)=>((fun (Z1:b6)=>Tr.req (kO 0 12 0 12) (Tr.req (br (ay .i64 p (Int.ofNat 2)) 12) (Tr.req (dH 0 0) (Tr.req (bt (al 0 (ay .i64 p (Int.ofNat 2)) 1) 12) (Tr.reqP (Z0=Z0∧{ lock:=false,bs:=[(0,aj.row (Row.I .i64 [p])),(0,aj.row (Row.M [aC.arr .i64 (fO (uy (fun x=>Int.ofNat 0) 0 (fun x=>Int.ofNat 0) 12) (al 0 (ay .i64 p (Int.ofNat 2)) 1) (Int.ofNat 1)) 12])),(0,aj.row (Row.I .i64 [p])),(0,aj.row (Row.G [AV.slc 0 2 0 0 1 1 (some 1)]))] } :: H={ lock:=false,bs:=[(0,aj.row (Row.I .i64 [p])),(0,aj.row (Row.M [aC.arr .i64 mk 12])),(0,aj.row (Row.I .i64 [p])),(0,aj.row (Row.G [AV.slc 0 2 0 0 1 1 (some 1)]))] } :: H) (Tr.reqP ([AV.slc 0 2 0 0 1 1 (some 1)]=[AV.slc 0 2 0 0 1 1 (some 1)]∧Z1::H=Z1::H) (Tr.req (dH 0 0) (Tr.ok ((AV.slcT none (Row.I .i64 [p]) 1 1 (dH 1 1),none),H))))))))) { lock:=false,bs:=[(0,aj.row (Row.I .i64 [p])),(0,aj.row (Row.M [aC.arr .i64 mk2 12])),(0,aj.row (Row.I .i64 [p])),(0,aj.row (Row.G [AV.slc 0 2 0 0 1 1 (some 1)]))] })) [(0,AV.ptrT (some (Nat.succ tk)) (Row.M [aC.one (AV.int .i64 w),aC.one (aU 2 ls zs),aC.one (aU 3 ld zd),aC.one (.slcT none (.M [.arr .i64 sz (aI ls 2)]) 2 ls true),aC.arr .i64 kd 144]) 0),(2,AV.bool sure),(4,AV.ptr 0 0 0 0),(7,AV.ptr 0 1 0 0),(8,AV.ptr 0 3 0 0),(9,AV.int .i64 (Int.ofNat 0))]:=by kernel_rfl
theorem O0 (n:Nat) (tk:Nat) (w:Int) (ls ld:Nat) (zs zd sz kd mk mk2 z z2:Nat→Int) (H:ae) (p i2:Int) (sure:Bool) (v m:Nat):aW Try.prog (cd (n+5)) 100000 88 Try.f88 (Kt.kt 88) (il (sJ aG 108 [.slc 0 4 v 0 1 m none] (fc p mk2 z (.slc 0 4 v 0 1 m none) v m::H) (.ok (.tup [],fc p mk2 z2 (.slc 0 4 v 0 1 m none) v m::H))) (n+5) 0) (dc aJ 0 (n9 tk w ls ld zs zd sz kd sure 0) (dh p mk pq []::H) (.ok (.normal,hints (n9 tk w ls ld zs zd sz kd sure i2++[(21,.bool false)]),fc p mk2 z (.slc 0 4 v 0 1 m none) v m::H))) aK [(a9 tk w ls ld zs zd sz kd,none),(.int .i64 p,none),(.bool sure,none)] H =
 (fun (Z0:aO)=>((fun (Z1:b6)=>Tr.req (kO 0 12 0 12) (Tr.req (br (ay .i64 p (Int.ofNat 2)) 12) (Tr.req (dH 0 0) (Tr.req (bt (al 0 (ay .i64 p (Int.ofNat 2)) 1) 12) (Tr.reqP (Z0=Z0∧{ lock:=false,bs:=[(0,aj.row (Row.I .i64 [p])),(0,aj.row (Row.M [aC.arr .i64 (fO (uy (fun x=>Int.ofNat 0) 0 (fun x=>Int.ofNat 0) 12) (al 0 (ay .i64 p (Int.ofNat 2)) 1) (Int.ofNat 1)) 12])),(0,aj.row (Row.I .i64 [p])),(0,aj.row (Row.G [AV.slc 0 2 0 0 1 1 (some 1)]))] } :: H={ lock:=false,bs:=[(0,aj.row (Row.I .i64 [p])),(0,aj.row (Row.M [aC.arr .i64 mk 12])),(0,aj.row (Row.I .i64 [p])),(0,aj.row (Row.G [AV.slc 0 2 0 0 1 1 (some 1)]))] } :: H) (Tr.reqP ([AV.slc 0 4 v 0 1 m none]=[AV.slc 0 4 v 0 1 m none]∧Z1::H=Z1::H) (Tr.req (dH v v) (Tr.req (kO 0 m 0 m) (Tr.ok ((AV.slcT none (Row.M [aC.arr .i64 (nv z2 0) m]) 1 m false,none),H)))))))))) { lock:=false,bs:=[(0,aj.row (Row.I .i64 [p])),(0,aj.row (Row.M [aC.arr .i64 mk2 12])),(0,aj.row (Row.I .i64 [p])),(0,aj.row (Row.G [AV.slc 0 4 v 0 1 m none])),(v,aj.row (Row.M [aC.arr .i64 z m]))] })) [(0,AV.ptrT (some (Nat.succ tk)) (Row.M [aC.one (AV.int .i64 w),aC.one (aU 2 ls zs),aC.one (aU 3 ld zd),aC.one (.slcT none (.M [.arr .i64 sz (aI ls 2)]) 2 ls true),aC.arr .i64 kd 144]) 0),(2,AV.bool sure),(4,AV.ptr 0 0 0 0),(7,AV.ptr 0 1 0 0),(8,AV.ptr 0 3 0 0),(9,AV.int .i64 (Int.ofNat 0))]:=by kernel_rfl
noncomputable def mD (p:Int):Nat→Int:=fO (uy (fun _=>0) 0 (fun _=>0) 12) (p+2).toNat 1
noncomputable def AU (p:Int):List Int→AV
 | []=>.slcT none (.I .i64 [p]) 1 1 true
 | y::r=>bn (r.length+2) (fZ (bE (p::y::r)) (r.length+1)) false
noncomputable def uH (kd:Nat→Int) (sure:Bool) (ls:Nat) (p:Int):List Int:=(ky kd sure ls p (mD p) (vC kd sure ls p (mD p))).2
section
variable (n:Nat) (tk:Nat) (w:Int) (ls ld:Nat) (zs zd sz kd:Nat→Int) (H:ae) (p:Int) (sure:Bool) (mk:Nat→Int)
theorem I7:cd (n+3) (.fn 115) [.slc 2 2 0 0 1 1 (some 1),.int .i64 0,.int .i64 1] (af::af::dh p mk pq []::H)=some (.tup [],af::af::dh p mk pq []::H):=by
 have l:=uE (n:=n+2) (f:=115) (nt:=49) (c:=part Try.f115 [1,0,0]) 0 (fun k=>oV ((k+1:Nat):Int)) (fun k=>af::af::af::dh p mk pq []::H) 0 (oV ((1:Nat):Int)++[(12,.bool false)],af::af::af::dh p mk pq []::H) (by omega) (fun k hk=>by omega) (by
  obtain ⟨x,h1,rfl⟩:=bz (Q:=fun x=>x=(.exit 0,oV ((1:Nat):Int)++[(12,.bool false)],af::af::af::dh p mk pq []::H)) (KI n H p mk ((1:Nat):Int)) (bU n 2) (cN (ah _ _) 2) (ai _ _) (by
   repeat' first | (refine Tr.an (fun hc=>?_) (fun hc=>?_)<;>(try simp (disch:=omega) only[nV,nW] at hc)<;>try omega) | (refine Tr.ao ?_ ?_;· (try simp (disch:=omega) only[nV,nW]);try omega) | (refine Tr.ak ?_ ?_;· first | exact trivial | rfl | exact ⟨rfl,rfl⟩ | exact ⟨rfl,rfl,rfl⟩ | (simp (disch:=omega) only[nV,nW];done) | ((try simp (disch:=omega) only[nV,nW]);omega)) | fail
   exact Tr.aq rfl)
  exact h1)
 have e1:ay .i64 0 1=((1:Nat):Int):=by rw[aR];rfl
 refine bp (n:=n+2) Try.func115 rfl rfl rfl (Lh n H p mk ((1:Nat):Int)) (bU n 2) (bf (ah _ _) IS (fun x hx=>by rw[← Tr.ab hx,e1];simp only[dg.st,aw];exact l)) (ai _ _) ?_
 repeat' first | (refine Tr.an (fun hc=>?_) (fun hc=>?_)<;>(try simp (disch:=omega) only[nV,nW] at hc)<;>try omega) | (refine Tr.ao ?_ ?_;· (try simp (disch:=omega) only[nV,nW]);try omega) | (refine Tr.ak ?_ ?_;· first | exact trivial | rfl | exact ⟨rfl,rfl⟩ | exact ⟨rfl,rfl,rfl⟩ | (simp (disch:=omega) only[nV,nW];done) | ((try simp (disch:=omega) only[nV,nW]);omega)) | fail
 exact Tr.aq ⟨rfl,rfl⟩
theorem I6 (lim:Int):cd (n+4) (.fn 113) [.slc 1 2 0 0 1 1 (some 1),.int .i64 0,.int .i64 1,.int .i64 lim] (af::dh p mk pq []::H)=some (.tup [],af::dh p mk pq []::H):=by
 refine bp (n:=n+3) Try.func113 rfl rfl rfl (Lg n H p mk lim) (bQ _ (n+3) 0 (fun k=>fG (bB _) (fun x hx=>?_))) (ah _ _) (ai _ _) ?_
 · rw[← Tr.ab hx,show n+3+k=n+k+3 by omega]
   exact I7 (n+k) H p mk
 · repeat' first | (refine Tr.an (fun hc=>?_) (fun hc=>?_)<;>(try simp (disch:=omega) only[nV,nW] at hc)<;>try omega) | (refine Tr.ao ?_ ?_;· (try simp (disch:=omega) only[nV,nW]);try omega) | (refine Tr.ak ?_ ?_;· first | exact trivial | rfl | exact ⟨rfl,rfl⟩ | exact ⟨rfl,rfl,rfl⟩ | (simp (disch:=omega) only[nV,nW];done) | ((try simp (disch:=omega) only[nV,nW]);omega)) | fail
   exact Tr.aq ⟨rfl,rfl⟩
theorem I1:cd (n+5) (.fn 108) [pq] (dh p mk pq []::H)=some (.tup [],dh p mk pq []::H):=by
 have ew:qH .u64 (Int.ofNat 1)=Int.ofNat 1:=by rw[sH];rfl
 refine bp (n:=n+4) Try.func108 rfl rfl rfl (La n H p mk (mY 1)) (bQ _ (n+4) 0 (fun k=>bI (fG (bB _) (fun x hx=>?_)) (fun args p' v' hg hp H=>?_))) (ah _ _) (ai _ _) ?_
 · rw[← Tr.ab hx,show n+4+k=n+k+4 by omega]
   exact I6 (n+k) H p mk _
 · unfold Ei at hg
   split at hg
   · simp only[nP] at hg
     obtain ⟨rfl,rfl⟩:=hg
     subst hp
     rw[show n+4+k=n+1+k+3 by omega]
     exact BT _ H
   · cases hg
 · rw[ew]
   refine Tr.ak rfl (Tr.ak ⟨rfl,rfl⟩ (Tr.aq ⟨rfl,rfl⟩))
theorem Pf:∀ b,(0,b) ∈ av (aL Try.f88)→b=.loop (part Try.f88 [1,1,1,1,1,0,1,0,0]):=by
 have:((av (aL Try.f88)).filter fun x=>Nat.beq x.1 0)=[(0,.loop (part Try.f88 [1,1,1,1,1,0,1,0,0]))]:=by kernel_rfl
 intro b hb
 have hm:(0,b) ∈ ((av (aL Try.f88)).filter fun x=>Nat.beq x.1 0):=List.mem_filter.2 ⟨hb,rfl⟩
 rw[this] at hm;simpa using hm
theorem PS (hp:-2≤p∧p<ls) (hls:ls≤10):cd (n+6) (.fn 88) [a9 tk w ls ld zs zd sz kd,.int .i64 p,.bool sure] H=some (AU p (uH kd sure ls p),H):=by
 have l:=Rx n tk w ls ld zs zd sz kd H p sure (mD p) hp hls
 have hg:=mT ls kd p sure (mD p) hp (vC kd sure ls p (mD p))
 have hlen:=hg.len
 have e1:ay .i64 p (Int.ofNat 2)=p+2:=by rw[aR,show Int.ofNat 2=2 from rfl];exact bX (by omega) (by omega)
 have e2:al 0 (p+2) 1=(p+2).toNat:=by rw[bT];omega
 have e3:fO (uy (fun _=>Int.ofNat 0) 0 (fun _=>Int.ofNat 0) 12) (p+2).toNat (Int.ofNat 1)=mD p:=rfl
 unfold uH
 generalize vC kd sure ls p (mD p)=N at *
 generalize ky kd sure ls p (mD p) N=s at *
 obtain ⟨mk2,r⟩:=s
 cases r with
 | nil =>
   refine bp (n:=n+5) Try.func88 rfl rfl rfl (OZ n tk w ls ld zs zd sz kd (mD p) mk2 H p (N:Int) sure) (bQ _ (n+5) 0 (fun k=>fG (bB _) (fun x hx=>?_))) (bf (ah _ _) Pf (fun x hx=>by rw[← Tr.ab hx];simp only[dg.st,aw];exact l)) (ai _ _) ?_
   · rw[← Tr.ab hx,show n+5+k=n+k+5 by omega]
     exact I1 (n+k) H p mk2
   · rw[e1,e2,e3]
     repeat' first | (refine Tr.an (fun hc=>?_) (fun hc=>?_)<;>(try simp (disch:=omega) only[nV,nW] at hc)<;>try omega) | (refine Tr.ao ?_ ?_;· (try simp (disch:=omega) only[nV,nW]);try omega) | (refine Tr.ak ?_ ?_;· first | exact trivial | rfl | exact ⟨rfl,rfl⟩ | exact ⟨rfl,rfl,rfl⟩ | (simp (disch:=omega) only[nV,nW];done) | ((try simp (disch:=omega) only[nV,nW]);omega)) | fail
     refine Tr.aq ⟨?_,rfl⟩
     simp only[jL]
     rfl
 | cons y r =>
   have hr:r.length+1≤ls+2:=by simpa using hlen
   have hr2:r.length+1≤ls+1:=by
    have h1:=rZ (ls+2) (-2) (p::y::r) (List.nodup_cons.2 ⟨fun hm=>(hg.mem p hm).2.2.1 rfl,hg.nd⟩) (fun q hq=>by
     rcases List.mem_cons.1 hq with h | h
     · rw[h];omega
     · have:=hg.mem q h;omega)
    have:r.length+1+1≤ls+2:=by simpa using h1
    omega
   refine bp (n:=n+5) Try.func88 rfl rfl rfl (O0 n tk w ls ld zs zd sz kd (mD p) mk2 (bE (p::y::r)) (fZ (bE (p::y::r)) (r.length+2-1)) H p (N:Int) sure r.length (r.length+2)) (bQ _ (n+5) 0 (fun k=>fG (bB _) (fun x hx=>?_))) (bf (ah _ _) Pf (fun x hx=>by rw[← Tr.ab hx];simp only[dg.st,aw];exact l)) (ai _ _) ?_
   · rw[← Tr.ab hx,show n+5+k=n+k+5 by omega]
     exact LQ (n+k) H p mk2 (bE (p::y::r)) _ r.length (r.length+2) (by omega) (by omega)
   · rw[e1,e2,e3]
     repeat' first | (refine Tr.an (fun hc=>?_) (fun hc=>?_)<;>(try simp (disch:=omega) only[nV,nW] at hc)<;>try omega) | (refine Tr.ao ?_ ?_;· (try simp (disch:=omega) only[nV,nW]);try omega) | (refine Tr.ak ?_ ?_;· first | exact trivial | rfl | exact ⟨rfl,rfl⟩ | exact ⟨rfl,rfl,rfl⟩ | (simp (disch:=omega) only[nV,nW];done) | ((try simp (disch:=omega) only[nV,nW]);omega)) | fail
     refine Tr.aq ⟨?_,rfl⟩
     rw[hJ]
     rfl
end
end Go.Eng
end
section
namespace Go.Eng
open Go.Proofs
set_option linter.unusedVariables false
set_option linter.unusedSimpArgs false
set_option maxRecDepth 100000
noncomputable def tK (m:Nat) (z:Nat→Int) (full:Bool) (q j:Int):aO:=[(0,bn m z full),(1,.int .i64 q),(7,.int .i64 (Int.ofNat m)),(8,.int .i64 j)]
noncomputable def hY (p:Int):AV:=.slcT none (.I .i64 [p]) 1 1 true
theorem t107 (n:Nat) (H:ae) (m:Nat) (z:Nat→Int) (full:Bool) (q j:Int):aH (bF n 107 19) (il aG n 0) aJ aK (part Try.f107 [1,0,1,0,0]) (hints (tK m z full q j)) (af::H) =
 Tr.ite (bA j (Int.ofNat m)) (Tr.req (br j m) (Tr.req (bt (al 0 j 1) m) (Tr.ite (aF q (z (al 0 j 1))) (Tr.ok (Ex.ret,[(4,AV.int .i64 j,none)],af::H)) (Tr.ok (Ex.normal,[(0,AV.slcT none (Row.M [aC.arr .i64 z m]) 1 m full,none),(1,AV.int .i64 q,none),(7,AV.int .i64 (Int.ofNat m),none),(8,AV.int .i64 (ay .i64 j (Int.ofNat 1)),none)],af::H))))) (Tr.ok (Ex.exit 0,[(0,AV.slcT none (Row.M [aC.arr .i64 z m]) 1 m full,none),(1,AV.int .i64 q,none),(7,AV.int .i64 (Int.ofNat m),none),(8,AV.int .i64 j,none),(9,AV.bool false,some 1)],af::H)):=by kernel_rfl
theorem Oo (n:Nat) (H:ae) (m:Nat) (z:Nat→Int) (full:Bool) (q i:Int) (e:Bool):aW Try.prog (cd n) 100000 107 Try.f107 (Kt.kt 107) (il aG n 0) (dc aJ 0 (tK m z full q 0) (af::H) (.ite e (.ok (.ret,[(4,.int .i64 i,none)],af::H)) (.ok (.normal,hints (tK m z full q (Int.ofNat m)++[(9,.bool false)]),af::H)))) aK [(bn m z full,none),(.int .i64 q,none)] H =
 (fun (Z0:aO)=>Tr.reqP (Z0=Z0∧af::H=af::H) (Tr.ite e (Tr.ok ((AV.int .i64 i,none),H)) (Tr.ok ((AV.int .i64 (Int.negSucc 0),some 1),H)))) [(0,AV.slcT none (Row.M [aC.arr .i64 z m]) 1 m full),(1,AV.int .i64 q),(7,AV.int .i64 (Int.ofNat m)),(8,AV.int .i64 (Int.ofNat 0))]:=by kernel_rfl
theorem K9 (n:Nat) (H:ae) (p q:Int):aW Try.prog (cd n) 100000 107 Try.f107 (Kt.kt 107) (il aG n 0) aJ aK [(hY p,some 1),(.int .i64 q,none)] H =
 Tr.req (br (Int.ofNat 0) 1) (Tr.ite (aF q p) (Tr.ok ((AV.int .i64 (Int.ofNat 0),some 1),H)) (Tr.ok ((AV.int .i64 (Int.negSucc 0),some 1),H))):=by kernel_rfl
theorem R1 (n:Nat) (H:ae) (a:AV) (m:Nat) (z:Nat→Int) (full:Bool) (q i:Int):aW Try.prog (cd (n+1)) 100000 85 Try.f85 (Kt.kt 85) (il (sJ aG 107 [bn m z full,.int .i64 q] (af::H) (.ok (.int .i64 i,af::H))) (n+1) 0) aJ aK [(bn m z full,none),(.int .i64 q,none)] H =
 Tr.reqP ([AV.slcT none (Row.M [aC.arr .i64 z m]) 1 m full,AV.int .i64 q]=[AV.slcT none (Row.M [aC.arr .i64 z m]) 1 m full,AV.int .i64 q]∧af::H=af::H) (Tr.ok ((AV.bool (dA (Int.ofNat 0) i),none),H)):=by kernel_rfl
theorem OY (n:Nat) (H:ae) (p q i:Int):aW Try.prog (cd (n+1)) 100000 85 Try.f85 (Kt.kt 85) (il (sJ aG 107 [hY p,.int .i64 q] (af::H) (.ok (.int .i64 i,af::H))) (n+1) 0) aJ aK [(hY p,none),(.int .i64 q,none)] H =
 Tr.reqP ([AV.slcT none (Row.I .i64 [p]) 1 1 true,AV.int .i64 q]=[AV.slcT none (Row.I .i64 [p]) 1 1 true,AV.int .i64 q]∧af::H=af::H) (Tr.ok ((AV.bool (dA (Int.ofNat 0) i),none),H)):=by kernel_rfl
theorem OI (n:Nat) (w:Int) (ls ld:Nat) (zs zd:Nat→Int) (H:ae) (p q e:Int) (sure:Bool):aW Try.prog (cd (n+14)) 100000 34 Try.f34 (Kt.kt 34) (il (b7 (b7 aG 68 (AT (aa w ls zs ld zd) p q .nilp e)) 88 (fun _=>none)) (n+14) 0) aJ aK [(aa w ls zs ld zd,none),(.int .i64 p,none),(.int .i64 q,none),(.bool sure,none)] H =
 Tr.reqP (aa w ls zs ld zd=aa w ls zs ld zd∧p=p∧q=q) (Tr.ite (aD (aF e (Int.ofNat 0))) (Tr.ok ((AV.tup [AV.nils,AV.int .i64 e],none),H)) Tr.bad):=by kernel_rfl
noncomputable def Lr (T:AV) (p:Int) (sure:Bool) (l:AV):List AV→Option (Prop×AV)
 | [t,.int .i64 q,.bool s]=>some (t=T∧q=p∧s=sure,l)
 | _=>none
def Lq (A:AV) (q:Int) (b:Bool):List AV→Option (Prop×AV)
 | [a,.int .i64 x]=>some (a=A∧x=q,.bool b)
 | _=>none
theorem OG (n:Nat) (w:Int) (ls ld:Nat) (zs zd sz kd:Nat→Int) (H:ae) (p q:Int) (sure b:Bool):aW Try.prog (cd (n+14)) 100000 34 Try.f34 (Kt.kt 34) (il (b7 (b7 (b7 aG 68 (AT (aa w ls zs ld zd) p q (gu w ls ld zs zd sz kd) 0)) 88 (Lr (gu w ls ld zs zd sz kd) p sure (hY p))) 85 (Lq (hY p) q b)) (n+14) 0) aJ aK [(aa w ls zs ld zd,none),(.int .i64 p,none),(.int .i64 q,none),(.bool sure,none)] H =
 (fun (Z0:Row)=>Tr.reqP (aa w ls zs ld zd=aa w ls zs ld zd∧p=p∧q=q) (Tr.ite (aD (aF (Int.ofNat 0) (Int.ofNat 0))) (Tr.ok ((AV.tup [AV.nils,AV.int .i64 (Int.ofNat 0)],none),H)) (Tr.reqP (AV.ptrT (some 0) Z0 0=AV.ptrT (some 0) Z0 0∧p=p∧sure=sure) (Tr.reqP (AV.slcT none (Row.I .i64 [p]) 1 1 true=AV.slcT none (Row.I .i64 [p]) 1 1 true∧q=q) (Tr.ite b (Tr.ok ((AV.tup [AV.nils,AV.int .i64 (Int.ofNat 11)],none),H)) (Tr.ok ((AV.tup [AV.slcT none (Row.I .i64 [p]) 1 1 true,AV.int .i64 (Int.ofNat 0)],none),H))))))) (Row.M [aC.one (AV.int .i64 w),aC.one (aU 2 ls zs),aC.one (aU 3 ld zd),aC.one (AV.slcT none (Row.M [aC.arr .i64 sz (aI ls 2)]) 2 ls true),aC.arr .i64 kd 144]):=by kernel_rfl
theorem OH (n:Nat) (w:Int) (ls ld m:Nat) (zs zd sz kd z:Nat→Int) (H:ae) (p q:Int) (sure b:Bool):aW Try.prog (cd (n+14)) 100000 34 Try.f34 (Kt.kt 34) (il (b7 (b7 (b7 aG 68 (AT (aa w ls zs ld zd) p q (gu w ls ld zs zd sz kd) 0)) 88 (Lr (gu w ls ld zs zd sz kd) p sure (bn m z false))) 85 (Lq (bn m z false) q b)) (n+14) 0) aJ aK [(aa w ls zs ld zd,none),(.int .i64 p,none),(.int .i64 q,none),(.bool sure,none)] H =
 (fun (Z0:Row)=>Tr.reqP (aa w ls zs ld zd=aa w ls zs ld zd∧p=p∧q=q) (Tr.ite (aD (aF (Int.ofNat 0) (Int.ofNat 0))) (Tr.ok ((AV.tup [AV.nils,AV.int .i64 (Int.ofNat 0)],none),H)) (Tr.reqP (AV.ptrT (some 0) Z0 0=AV.ptrT (some 0) Z0 0∧p=p∧sure=sure) (Tr.reqP (AV.slcT none (Row.M [aC.arr .i64 z m]) 1 m false=AV.slcT none (Row.M [aC.arr .i64 z m]) 1 m false∧q=q) (Tr.ite b (Tr.ok ((AV.tup [AV.nils,AV.int .i64 (Int.ofNat 11)],none),H)) (Tr.ok ((AV.tup [AV.slcT none (Row.M [aC.arr .i64 z m]) 1 m false,AV.int .i64 (Int.ofNat 0)],none),H))))))) (Row.M [aC.one (AV.int .i64 w),aC.one (aU 2 ls zs),aC.one (aU 3 ld zd),aC.one (AV.slcT none (Row.M [aC.arr .i64 sz (aI ls 2)]) 2 ls true),aC.arr .i64 kd 144]):=by kernel_rfl
section
variable (n:Nat) (H:ae) (m:Nat) (z:Nat→Int) (full:Bool) (p q:Int)
theorem LC:∀ b,(0,b) ∈ av (aL Try.f107)→b=.loop (part Try.f107 [1,0,1,0,0]):=by
 have:((av (aL Try.f107)).filter fun x=>Nat.beq x.1 0)=[(0,.loop (part Try.f107 [1,0,1,0,0]))]:=by kernel_rfl
 intro b hb
 have hm:(0,b) ∈ ((av (aL Try.f107)).filter fun x=>Nat.beq x.1 0):=List.mem_filter.2 ⟨hb,rfl⟩
 rw[this] at hm;simpa using hm
theorem LP (hm:m≤1000):cd (n+1) (.fn 107) [bn m z full,.int .i64 q] H=some (.int .i64 (cond (iA z m q) ((fN (fun j=>decide (z j=q)) m 0:Nat):Int) (-1)),H):=by
 have l:=gV (n:=n) (f:=107) (nt:=19) (c:=part Try.f107 [1,0,1,0,0]) 0 (fun j=>tK m z full q (j:Int)) (fun _=>af::H) m (fun j=>decide (z j=q)) (fun j=>([(4,.int .i64 (j:Int))],af::H)) (tK m z full q (Int.ofNat m)++[(9,.bool false)],af::H) (by omega) (fun j hj=>?_) ?_
 · refine bp (n:=n) Try.func107 rfl rfl rfl (Oo n H m z full q ((fN (fun j=>decide (z j=q)) m 0:Nat):Int) (iA z m q)) (bk n) (bf (ah _ _) LC (fun x hx=>?_)) (ai _ _) ?_
   · refine Eq.trans l ?_
     rcases Tr.bH hx with ⟨hc,hx⟩ | ⟨hc,hx⟩
     · rw[← Tr.ab hx,show bD (fun j=>decide (z j=q)) m=true from hc];rfl
     · rw[← Tr.ab hx,show bD (fun j=>decide (z j=q)) m=false from hc];simp only[dg.st,aw];rfl
   · repeat' first | (refine Tr.an (fun hc=>?_) (fun hc=>?_)<;>(try simp (disch:=omega) only[nV,nW] at hc)<;>try omega) | (refine Tr.ao ?_ ?_;· (try simp (disch:=omega) only[nV,nW]);try omega) | (refine Tr.ak ?_ ?_;· first | exact trivial | rfl | exact ⟨rfl,rfl⟩ | exact ⟨rfl,rfl,rfl⟩ | (simp (disch:=omega) only[nV,nW];done) | ((try simp (disch:=omega) only[nV,nW]);omega)) | fail
     · refine Tr.aq ⟨?_,rfl⟩;rw[hc];rfl
     · refine Tr.aq ⟨?_,rfl⟩;rw[hc];rfl
 · have ej:ay .i64 (j:Int) (Int.ofNat 1)=((j+1:Nat):Int):=by rw[aR,show Int.ofNat 1=1 from rfl];exact bX (by omega) (by omega)
   refine bz (t107 n H m z full q (j:Int)) (bk n) (ah _ _) (ai _ _) ?_
   repeat' first | (refine Tr.an (fun hc=>?_) (fun hc=>?_)<;>(try simp (disch:=omega) only[nV,nW,Nat.mul_one] at hc)<;>try omega) | (refine Tr.ao ?_ ?_;· (try simp (disch:=omega) only[nV,nW,Nat.mul_one]);try omega) | (refine Tr.ak ?_ ?_;· first | exact trivial | rfl | exact ⟨rfl,rfl⟩ | exact ⟨rfl,rfl,rfl⟩ | (simp (disch:=omega) only[nV,nW,Nat.mul_one];done) | ((try simp (disch:=omega) only[nV,nW,Nat.mul_one]);omega)) | fail
   all_goals refine Tr.aq ?_
   · rw[if_pos (by simpa using hc.symm)];rfl
   · rw[if_neg (by simpa using fun h=>hc (Eq.symm h))]
     refine ⟨rfl,?_⟩
     rw[ej];rfl
 · obtain ⟨x,h1,rfl⟩:=bz (Q:=fun x=>x=(.exit 0,tK m z full q (Int.ofNat m)++[(9,.bool false)],af::H)) (t107 n H m z full q (Int.ofNat m)) (bk n) (ah _ _) (ai _ _) (by
    repeat' first | (refine Tr.an (fun hc=>?_) (fun hc=>?_)<;>(try simp (disch:=omega) only[nV,nW] at hc)<;>try omega) | (refine Tr.ao ?_ ?_;· (try simp (disch:=omega) only[nV,nW]);try omega) | (refine Tr.ak ?_ ?_;· first | exact trivial | rfl | exact ⟨rfl,rfl⟩ | exact ⟨rfl,rfl,rfl⟩ | (simp (disch:=omega) only[nV,nW];done) | ((try simp (disch:=omega) only[nV,nW]);omega)) | fail
    exact Tr.aq rfl)
   exact h1
theorem Mc (hm:m≤1000):cd (n+2) (.fn 85) [bn m z full,.int .i64 q] H=some (.bool (iA z m q),H):=by
 refine bp (n:=n+1) Try.func85 rfl rfl rfl (R1 n H .undef m z full q (cond (iA z m q) ((fN (fun j=>decide (z j=q)) m 0:Nat):Int) (-1))) (bQ _ (n+1) 0 (fun k=>fG (bB _) (fun x hx=>?_))) (ah _ _) (ai _ _) ?_
 · rw[← Tr.ab hx,show n+1+k=n+k+1 by omega]
   exact LP _ _ _ _ _ _ hm
 · refine Tr.ak ⟨rfl,rfl⟩ (Tr.aq ⟨?_,rfl⟩)
   rw[er]
   cases iA z m q
   · rfl
   · simp
theorem Jb:cd (n+2) (.fn 85) [hY p,.int .i64 q] H=some (.bool (decide (q=p)),H):=by
 refine bp (n:=n+1) Try.func85 rfl rfl rfl (OY n H p q (if q=p then 0 else -1)) (bQ _ (n+1) 0 (fun k=>fG (bB _) (fun x hx=>?_))) (ah _ _) (ai _ _) ?_
 · rw[← Tr.ab hx,show n+1+k=n+k+1 by omega]
   refine bp (n:=n+k) Try.func107 rfl rfl rfl (K9 (n+k) (af::H) p q) (bk (n+k)) (ah _ _) (ai _ _) ?_
   repeat' first | (refine Tr.an (fun hc=>?_) (fun hc=>?_)<;>(try simp (disch:=omega) only[nV,nW] at hc)<;>try omega) | (refine Tr.ao ?_ ?_;· (try simp (disch:=omega) only[nV,nW]);try omega) | (refine Tr.ak ?_ ?_;· first | exact trivial | rfl | exact ⟨rfl,rfl⟩ | exact ⟨rfl,rfl,rfl⟩ | (simp (disch:=omega) only[nV,nW];done) | ((try simp (disch:=omega) only[nV,nW]);omega)) | fail
   · rw[if_pos hc];exact Tr.aq ⟨rfl,rfl⟩
   · rw[if_neg hc];exact Tr.aq ⟨rfl,rfl⟩
 · refine Tr.ak ⟨rfl,rfl⟩ (Tr.aq ⟨?_,rfl⟩)
   rw[er]
   by_cases h:q=p<;>simp[h]
end
end Go.Eng
end
