/- Drop: CheckBath of the program. -/
import Derived.Test.YtjmjkhpfipglcaaV7DrDx3
import Derived.Test.YtjmjkhpfipglcaaV7EngThx6
section
namespace Go.Eng
open Go.Proofs
set_option linter.unusedVariables false
set_option linter.unusedSimpArgs false
set_option maxRecDepth 100000
def ml (p:Nat→Bool) (N:Nat):Int:=if bD p N then ((fN p N 0:Nat):Int) else -1
def Jz (ix:(Nat→Int)→Nat→Int→Int→Int):List AV→Option (Prop×AV)
 | [.slcT none (.M [.arr .i64 z N]) 2 m full,.agg (.I .i64 [x,y])]=>some (N=aI m 2∧cB m 1000=true,.int .i64 (ix z m x y))
 | _=>none
noncomputable def sX (ls:Nat) (zs:Nat→Int) (j:Int):aO:=[(1,AV.ptr 0 0 0 0),(4,.fn (.func 64) [] [.ptr 0 0 0 0]),(32,aU 2 ls zs),(33,.int .i64 (Int.ofNat ls)),(34,.int .i64 j)]
noncomputable def IK (w:Int) (ls ld:Nat) (zs zd:Nat→Int) (x y:Int):b6:=⟨false,[(0,.row (.G [.int .i64 w,aU 2 ls zs,aU 3 ld zd])),(0,.row (.I .i64 [w])),(0,.row (.I .i64 [x,y]))]⟩
theorem R4 (n:Nat) (w:Int) (ls ld:Nat) (zs zd:Nat→Int) (H:ae) (q:Bool) (i:Int):aW Try.prog (cd (n+5)) 100000 96 Try.f96 (Kt.kt 96) (il aG n 5) (dc aJ 0 (wa ls zs (Int.ofNat 0)) (sK w ls ld zs zd H) (Tr.ite q (Tr.ok (.ret,hints [(4,AV.int .i64 i)],sK w ls ld zs zd H)) (Tr.ok (.normal,hints (wa ls zs (Int.ofNat ls)++[(9,AV.bool false)]),sK w ls ld zs zd H)))) aK [(aU 2 ls zs,none),(.fn (.func 62) [] [.ptr 1 0 0 0],none)] (af::s7 w ls ld zs zd::H) =
 (fun (Z0:b6)=>((fun (Z1:aO)=>Tr.reqP (Z1=Z1∧af::af::Z0::H=af::af::Z0::H) (Tr.ite q (Tr.ok ((AV.int .i64 i,none),af::Z0::H)) (Tr.ok ((AV.int .i64 (Int.negSucc 0),some 1),af::Z0::H)))) [(0,aU 2 ls zs),(1,AV.fn (Fn.func 62) [] [AV.ptr 2 0 0 0]),(7,AV.int .i64 (Int.ofNat ls)),(8,AV.int .i64 (Int.ofNat 0))])) { lock:=false,bs:=[(0,aj.row (Row.G [AV.int .i64 w,aU 2 ls zs,aU 3 ld zd])),(0,aj.row (Row.I .i64 [w]))] }:=by kernel_rfl
theorem R6 (n:Nat) (w:Int) (ls ld:Nat) (zs zd:Nat→Int) (H:ae) (q:Bool) (i:Int):aW Try.prog (cd (n+5)) 100000 98 Try.f98 (Kt.kt 98) (il aG n 5) (dc aJ 0 (wc ld zd (Int.ofNat 0)) (sK w ls ld zs zd H) (Tr.ite q (Tr.ok (.ret,hints [(4,AV.int .i64 i)],sK w ls ld zs zd H)) (Tr.ok (.normal,hints (wc ld zd (Int.ofNat ld)++[(9,AV.bool false)]),sK w ls ld zs zd H)))) aK [(aU 3 ld zd,none),(.fn (.func 64) [] [.ptr 1 0 0 0],none)] (af::s7 w ls ld zs zd::H) =
 (fun (Z0:b6)=>((fun (Z1:aO)=>Tr.reqP (Z1=Z1∧af::af::Z0::H=af::af::Z0::H) (Tr.ite q (Tr.ok ((AV.int .i64 i,none),af::Z0::H)) (Tr.ok ((AV.int .i64 (Int.negSucc 0),some 1),af::Z0::H)))) [(0,aU 3 ld zd),(1,AV.fn (Fn.func 64) [] [AV.ptr 2 0 0 0]),(7,AV.int .i64 (Int.ofNat ld)),(8,AV.int .i64 (Int.ofNat 0))])) { lock:=false,bs:=[(0,aj.row (Row.G [AV.int .i64 w,aU 2 ls zs,aU 3 ld zd])),(0,aj.row (Row.I .i64 [w]))] }:=by kernel_rfl
theorem R5 (n:Nat) (m:Nat) (z:Nat→Int) (full:Bool) (x y:Int) (H:ae) (q:Bool) (i:Int):aW Try.prog (cd n) 100000 97 Try.f97 (Kt.kt 97) (il aG n 0) (dc aJ 0 (wb m z full (Int.ofNat 0)) (rQ x y::H) (Tr.ite q (Tr.ok (.ret,hints [(4,AV.int .i64 i)],rQ x y::H)) (Tr.ok (.normal,hints (wb m z full (Int.ofNat m)++[(9,AV.bool false)]),rQ x y::H)))) aK [(N4 m z full,none),(.agg (.I .i64 [x,y]),none)] H =
 (fun (Z0:aO)=>Tr.reqP (Z0=Z0∧{ lock:=false,bs:=[(0,aj.row (Row.I .i64 [x,y]))] } :: H={ lock:=false,bs:=[(0,aj.row (Row.I .i64 [x,y]))] } :: H) (Tr.ite q (Tr.ok ((AV.int .i64 i,none),H)) (Tr.ok ((AV.int .i64 (Int.negSucc 0),some 1),H)))) [(0,AV.slcT none (Row.M [aC.arr .i64 z (aI m 2)]) 2 m full),(3,AV.ptr 0 0 0 0),(7,AV.int .i64 (Int.ofNat m)),(8,AV.int .i64 (Int.ofNat 0))]:=by kernel_rfl
theorem t19 (n:Nat) (w:Int) (ls ld:Nat) (zs zd:Nat→Int) (H:ae) (j:Int) (ix:(Nat→Int)→Nat→Int→Int→Int):aH (bF (n+2) 19 50) (il (b7 aG 97 (Jz ix)) (n+1) 1) aJ aK (part Try.f19 [1,1,1,1,0,1,0,0]) (hints (sX ls zs j)) (s7 w ls ld zs zd::H) =
 (fun (Z0:b6)=>Tr.ite (bA j (Int.ofNat ls)) (Tr.req (br j ls) (Tr.req (bt (al 0 j 2) (aI ls 2)) (Tr.req (bt (au (al 0 j 2) 1) (aI ls 2)) (Tr.req (mN j ls) (Tr.req (cB (au (aI 0 2) (aI (fi j) 2)) (aI ls 2)) (Tr.reqP (aI (fi j) 2=aI (fi j) 2∧cB (fi j) 1000=true) (Tr.ite (dA (Int.ofNat 0) (ix zs (fi j) (zs (al 0 j 2)) (zs (au (al 0 j 2) 1)))) (Tr.ok (Ex.ret,[(2,AV.int .i64 (Int.ofNat 15),some 1)],Z0::H)) (Tr.ok (Ex.normal,[(1,AV.ptr 0 0 0 0,none),(4,AV.fn (Fn.func 64) [] [AV.ptr 0 0 0 0],none),(32,aU 2 ls zs,none),(33,AV.int .i64 (Int.ofNat ls),none),(34,AV.int .i64 (ay .i64 j (Int.ofNat 1)),none)],Z0::H))))))))) (Tr.ok (Ex.exit 1,[(1,AV.ptr 0 0 0 0,none),(4,AV.fn (Fn.func 64) [] [AV.ptr 0 0 0 0],none),(32,aU 2 ls zs,none),(33,AV.int .i64 (Int.ofNat ls),none),(34,AV.int .i64 j,none),(35,AV.bool false,some 1)],{ lock:=false,bs:=[(0,aj.row (Row.G [AV.int .i64 w,aU 2 ls zs,aU 3 ld zd])),(0,aj.row (Row.I .i64 [w]))] } :: H))) { lock:=false,bs:=[(0,aj.row (Row.G [AV.int .i64 w,aU 2 ls zs,aU 3 ld zd])),(0,aj.row (Row.I .i64 [w])),(0,aj.row (Row.I .i64 [zs (al 0 j 2),zs (au (al 0 j 2) 1)]))] }:=by kernel_rfl
theorem PE:∀ b,(0,b) ∈ av (aL Try.f96)→b=.loop (part Try.f96 [1,0,1,0,0]):=by
 have:av (aL Try.f96)=[(0,.loop (part Try.f96 [1,0,1,0,0])),(1,part Try.f96 [1,0,1,0,0,1,1,0,0])]:=by kernel_rfl
 intro b hb;rw[this] at hb;simpa using hb
theorem PG:∀ b,(0,b) ∈ av (aL Try.f98)→b=.loop (part Try.f98 [1,0,1,0,0]):=by
 have:av (aL Try.f98)=[(0,.loop (part Try.f98 [1,0,1,0,0])),(1,part Try.f98 [1,0,1,0,0,1,1,0,0])]:=by kernel_rfl
 intro b hb;rw[this] at hb;simpa using hb
theorem PF:∀ b,(0,b) ∈ av (aL Try.f97)→b=.loop (part Try.f97 [1,0,1,0,0]):=by
 have:av (aL Try.f97)=[(0,.loop (part Try.f97 [1,0,1,0,0])),(1,part Try.f97 [1,0,1,0,0,1,1,0,0])]:=by kernel_rfl
 intro b hb;rw[this] at hb;simpa using hb
theorem uO (p:Nat→Bool) (N:Nat):dA (Int.ofNat 0) (ml p N)=bD p N:=by
 rw[er]
 unfold ml
 cases bD p N<;>simp
section
variable (n:Nat) (w:Int) (ls ld:Nat) (zs zd:Nat→Int) (H:ae)
theorem PT (h1:ls≤10) (hw:2≤w∧w≤1000):cd (n+6) (.fn 96) [aU 2 ls zs,.fn (.func 62) [] [.ptr 1 0 0 0]] (af::s7 w ls ld zs zd::H)=some (.int .i64 (ml (mL w zs) ls),af::s7 w ls ld zs zd::H):=by
 refine gw (n:=n+5) Try.func96 rfl rfl rfl (R4 n w ls ld zs zd H (bD (mL w zs) ls) (Int.ofNat (fN (mL w zs) ls 0))) (bU n 5) (bf (ah _ _) PE (fun x hx=>Ry n w ls ld zs zd H h1 hw x hx)) (ai _ _) (y:=((.int .i64 (ml (mL w zs) ls),if bD (mL w zs) ls then none else some 1),af::s7 w ls ld zs zd::H)) ((Tr.bc ⟨rfl,rfl⟩).trans ?_)
 unfold ml
 cases bD (mL w zs) ls<;>rfl
theorem PV (h1:ld≤40):cd (n+6) (.fn 98) [aU 3 ld zd,.fn (.func 64) [] [.ptr 1 0 0 0]] (af::s7 w ls ld zs zd::H)=some (.int .i64 (ml (mM ls zd) ld),af::s7 w ls ld zs zd::H):=by
 refine gw (n:=n+5) Try.func98 rfl rfl rfl (R6 n w ls ld zs zd H (bD (mM ls zd) ld) (Int.ofNat (fN (mM ls zd) ld 0))) (bU n 5) (bf (ah _ _) PG (fun x hx=>RA n w ls ld zs zd H h1 x hx)) (ai _ _) (y:=((.int .i64 (ml (mM ls zd) ld),if bD (mM ls zd) ld then none else some 1),af::s7 w ls ld zs zd::H)) ((Tr.bc ⟨rfl,rfl⟩).trans ?_)
 unfold ml
 cases bD (mM ls zd) ld<;>rfl
theorem PU (m:Nat) (z:Nat→Int) (full:Bool) (x' y':Int) (h1:m≤1000):cd (n+1) (.fn 97) [N4 m z full,.agg (.I .i64 [x',y'])] H=some (.int .i64 (ml (zj z x' y') m),H):=by
 refine gw Try.func97 rfl rfl rfl (R5 n m z full x' y' H (bD (zj z x' y') m) (Int.ofNat (fN (zj z x' y') m 0))) (bk n) (bf (ah _ _) PF (fun x hx=>Rz n H m z full x' y' h1 x hx)) (ai _ _) (y:=((.int .i64 (ml (zj z x' y') m),if bD (zj z x' y') m then none else some 1),H)) ((Tr.bc ⟨rfl,rfl⟩).trans ?_)
 unfold ml
 cases bD (zj z x' y') m<;>rfl
theorem Mj (k:Nat) (t:lR) (ht:t.Ok (cd (n+1+k))):(b7 t 97 (Jz fun z m x y=>ml (zj z x y) m)).Ok (cd (n+1+k)):=by
 refine bI ht (fun args p v h hp H=>?_)
 unfold Jz at h
 split at h
 · simp only[nP] at h
   obtain ⟨rfl,rfl⟩:=h
   obtain ⟨rfl,hp⟩:=hp
   rw[eB,decide_eq_true_eq] at hp
   rw[show n+1+k=n+k+1 by omega]
   exact PU (n+k) H _ _ _ _ _ hp
 · cases h
theorem Mq:(il (b7 aG 97 (Jz fun z m x y=>ml (zj z x y) m)) (n+1) 1).Ok (cd (n+2)):=bQ _ (n+1) 1 (fun k=>Mj n k _ (bB _))
theorem Rr (h1:ls≤10) (x:dg) (hx:(Tr.ite (bD (fun i=>bD (qi zs i) i) ls) (Tr.ok (.ret,hints [(2,AV.int .i64 15)],IK w ls ld zs zd (zs (fN (fun i=>bD (qi zs i) i) ls 0*2)) (zs (fN (fun i=>bD (qi zs i) i) ls 0*2+1))::H)) (Tr.ok (.normal,hints (sX ls zs (Int.ofNat ls)++[(35,AV.bool false)]),s7 w ls ld zs zd::H))).run=some x) :
 exec (bF (n+2) 19 50) (.block 1 (.loop (part Try.f19 [1,1,1,1,0,1,0,0]))) (sX ls zs (Int.ofNat 0)) (s7 w ls ld zs zd::H)=some x.st:=by
 have st:∀ j,j<ls→(aH (bF (n+2) 19 50) (il (b7 aG 97 (Jz fun z m x y=>ml (zj z x y) m)) (n+1) 1) aJ aK (part Try.f19 [1,1,1,1,0,1,0,0]) (hints (sX ls zs (Int.ofNat j))) (s7 w ls ld zs zd::H)).run=some (cond (bD (qi zs j) j) (Ex.ret,[(2,AV.int .i64 15,some 1)],IK w ls ld zs zd (zs (j*2)) (zs (j*2+1))::H) (.normal,hints (sX ls zs (Int.ofNat (j+1))),IK w ls ld zs zd (zs (j*2)) (zs (j*2+1))::H)):=by
  intro j hj
  rw[t19]
  rw[Tr.run_ite,cj,decide_eq_true (by simpa using hj),cond_true,Tr.b8,dW,decide_eq_true (by simpa using hj),cond_true,Tr.b8,dJ,decide_eq_true (by rw[bT,gl];simp;omega),cond_true,Tr.b8,dJ,decide_eq_true (by rw[bP,bT,gl];simp;omega),cond_true,Tr.b8,uw,decide_eq_true (by simp;omega),cond_true,Tr.b8,eB,decide_eq_true (by rw[bP,gl,gl,gl,ir];simp;omega),cond_true,Tr.bc ⟨rfl,by rw[eB,decide_eq_true_eq,ir];simp;omega⟩,Tr.run_ite,uO]
  simp (disch:=omega) only[nX,nS,bY,ir]
  show cond (bD (qi zs j) j) _ _=_
  cases bD (qi zs j) j<;>rfl
 refine rp (Mq n) (ah _ _) (ai _ _) 1 (fun j=>sX ls zs (Int.ofNat j)) (fun _=>s7 w ls ld zs zd::H) ls (fun i=>bD (qi zs i) i)
  (fun j=>if j<ls then (.ret,[(2,AV.int .i64 15,some 1)],IK w ls ld zs zd (zs (j*2)) (zs (j*2+1))::H) else (.exit 1,hints (sX ls zs (Int.ofNat ls))++[(35,AV.bool false,some 1)],s7 w ls ld zs zd::H)) (by omega) (fun j hj hp=>?_) (fun j hj hp=>?_) ⟨?_,?_⟩ x ?_
 · refine ⟨hints (sX ls zs (Int.ofNat (j+1))),IK w ls ld zs zd (zs (j*2)) (zs (j*2+1))::H,?_,aw _,rfl⟩
   rw[st j hj,hp];rfl
 · rw[if_pos hj]
   exact ⟨by rw[st j hj,hp];rfl,rfl⟩
 · rw[if_neg (by omega),t19]
   simp (disch:=omega) only[nX,nS,bY]
   rfl
 · rw[if_neg (by omega)]
 · rcases Tr.bH hx with ⟨hc,hx⟩ | ⟨hc,hx⟩
   · have:=eN hc
     exact .inl ⟨this,by rw[if_pos this,← Tr.ab hx];rfl⟩
   · exact .inr ⟨eo hc,by rw[if_neg (by omega),← Tr.ab hx];rfl⟩
end
end Go.Eng
end
section
namespace Go.Eng
open Go.Proofs
set_option linter.unusedVariables false
set_option linter.unusedSimpArgs false
set_option maxRecDepth 100000
theorem RO (n:Nat) (w:Int) (ls ld:Nat) (zs zd:Nat→Int) (H:ae) (q:Bool) (i1 i2 x y:Int):aW Try.prog (cd (n+10)) 100000 19 Try.f19 (Kt.kt 19) (il (sJ (sJ aG 96 [aU 2 ls zs,.fn (.func 62) [] [.ptr 1 0 0 0]] (af::s7 w ls ld zs zd::H) (.ok (.int .i64 i1,af::s7 w ls ld zs zd::H))) 98 [aU 3 ld zd,.fn (.func 64) [] [.ptr 1 0 0 0]] (af::s7 w ls ld zs zd::H) (.ok (.int .i64 i2,af::s7 w ls ld zs zd::H))) (n+6) 4) (dc aJ 1 (sX ls zs (Int.ofNat 0)) (s7 w ls ld zs zd::H) (Tr.ite q (Tr.ok (.ret,hints [(2,AV.int .i64 15)],IK w ls ld zs zd x y::H)) (Tr.ok (.normal,hints (sX ls zs (Int.ofNat ls)++[(35,AV.bool false)]),s7 w ls ld zs zd::H)))) aK [(aa w ls zs ld zd,none)] H =
 (fun (Z0:b6)=>((fun (Z1:aO)=>Tr.req (br (Int.ofNat 0) 1) (Tr.ite (bA w (Int.ofNat 2)) (Tr.ok ((AV.int .i64 (Int.ofNat 2),some 1),H)) (Tr.ite (bA (Int.ofNat 1000) w) (Tr.ok ((AV.int .i64 (Int.ofNat 2),some 1),H)) (Tr.ite (bA (Int.ofNat 10) (Int.ofNat ls)) (Tr.ok ((AV.int .i64 (Int.ofNat 6),some 1),H)) (Tr.ite (bA (Int.ofNat 40) (Int.ofNat ld)) (Tr.ok ((AV.int .i64 (Int.ofNat 6),some 1),H)) (Tr.reqP ([aU 2 ls zs,AV.fn (Fn.func 62) [] [AV.ptr 1 0 0 0]]=[aU 2 ls zs,AV.fn (Fn.func 62) [] [AV.ptr 1 0 0 0]]∧af::Z0::H=af::Z0::H) (Tr.ite (dA (Int.ofNat 0) i1) (Tr.ok ((AV.int .i64 (Int.ofNat 3),some 1),H)) (Tr.reqP (Z1=Z1∧Z0::H=Z0::H) (Tr.ite q (Tr.ok ((AV.int .i64 (Int.ofNat 15),none),H)) (Tr.reqP ([aU 3 ld zd,AV.fn (Fn.func 64) [] [AV.ptr 1 0 0 0]]=[aU 3 ld zd,AV.fn (Fn.func 64) [] [AV.ptr 1 0 0 0]]∧af::Z0::H=af::Z0::H) (Tr.ite (dA (Int.ofNat 0) i2) (Tr.ok ((AV.int .i64 (Int.ofNat 16),some 1),H)) (Tr.ok ((AV.int .i64 (Int.ofNat 0),some 1),H))))))))))))) [(1,AV.ptr 0 0 0 0),(4,AV.fn (Fn.func 64) [] [AV.ptr 0 0 0 0]),(32,aU 2 ls zs),(33,AV.int .i64 (Int.ofNat ls)),(34,AV.int .i64 (Int.ofNat 0))])) { lock:=false,bs:=[(0,aj.row (Row.G [AV.int .i64 w,aU 2 ls zs,aU 3 ld zd])),(0,aj.row (Row.I .i64 [w]))] }:=by kernel_rfl
theorem Sb (n:Nat) (w:Int) (ls ld:Nat) (zs zd:Nat→Int) (H:ae):aW Try.prog (cd (n+4)) 100000 19 Try.f19 (Kt.kt 19) (il (sJ (sJ aG 96 [] [] .bad) 98 [] [] .bad) n 4) (fY aJ 1) aK [(aa w ls zs ld zd,none)] H =
 Tr.req (br (Int.ofNat 0) 1) (Tr.ite (bA w (Int.ofNat 2)) (Tr.ok ((AV.int .i64 (Int.ofNat 2),some 1),H)) (Tr.ite (bA (Int.ofNat 1000) w) (Tr.ok ((AV.int .i64 (Int.ofNat 2),some 1),H)) (Tr.ite (bA (Int.ofNat 10) (Int.ofNat ls)) (Tr.ok ((AV.int .i64 (Int.ofNat 6),some 1),H)) (Tr.ite (bA (Int.ofNat 40) (Int.ofNat ld)) (Tr.ok ((AV.int .i64 (Int.ofNat 6),some 1),H)) (Tr.reqP ([aU 2 ls zs,AV.fn (Fn.func 62) [] [AV.ptr 1 0 0 0]]=[]∧af::{ lock:=false,bs:=[(0,aj.row (Row.G [AV.int .i64 w,aU 2 ls zs,aU 3 ld zd])),(0,aj.row (Row.I .i64 [w]))] } :: H=[]) Tr.bad))))):=by kernel_rfl
theorem Px:∀ b,(1,b) ∈ av (aL Try.f19)→b=.loop (part Try.f19 [1,1,1,1,0,1,0,0]):=by
 have:av (aL Try.f19)=[(0,part Try.f19 [1,1,1,0,0]),(1,.loop (part Try.f19 [1,1,1,1,0,1,0,0])),(2,part Try.f19 [1,1,1,1,0,1,0,0,1,1,0,0])]:=by kernel_rfl
 intro b hb;rw[this] at hb;simpa using hb
theorem jR {p q:Nat→Bool} {N:Nat} (h:∀ i,i<N→p i=q i):bD p N=bD q N:=by
 rw[Bool.eq_iff_iff,bV,bV]
 constructor
 · rintro ⟨i,h1,h2⟩;exact ⟨i,h1,by rw[← h i h1];exact h2⟩
 · rintro ⟨i,h1,h2⟩;exact ⟨i,h1,by rw[h i h1];exact h2⟩
theorem DR (w:Int) (zs:Nat→Int) (j:Nat):mL w zs j=kY w zs j:=by
 unfold mL kY
 rw[show decide (w-1<zs (j*2))=decide (w≤zs (j*2)) by rw[decide_eq_decide];omega]
theorem DS (ls:Nat) (zd:Nat→Int) (j:Nat):mM ls zd j=fF ls zd j:=by
 rw[Bool.eq_iff_iff]
 unfold mM fF
 simp only[Bool.or_eq_true,decide_eq_true_eq]
 omega
section
variable (n:Nat) (w:Int) (ls ld:Nat) (zs zd:Nat→Int) (H:ae)
theorem PI:cd (n+11) (.fn 19) [aa w ls zs ld zd] H=some (.int .i64 (bN w ls ld zs zd),H):=by
 have out:(w<2∨1000<w∨¬ ls≤10∨¬ ld≤40)→cd (n+11) (.fn 19) [aa w ls zs ld zd] H=some (.int .i64 (bN w ls ld zs zd),H):=by
  intro ho
  refine gw (n:=n+6+4) Try.func19 rfl rfl rfl (Sb (n+6) w ls ld zs zd H) (bQ _ (n+6) 4 (fun k=>fG (fG (bB _) (fun x hx=>(Tr.ag hx).elim)) (fun x hx=>(Tr.ag hx).elim))) (cN (ah _ _) 1) (ai _ _) (y:=((.int .i64 (bN w ls ld zs zd),some 1),H)) ?_
  by_cases e1:w<2<;>by_cases e2:1000<w<;>by_cases e3:10<ls<;>by_cases e4:40<ld<;>first
   | (exfalso;omega)
   | (simp (disch:=omega) only[nX,nS,bY,bN,e1,e2,e3,e4,decide_true,decide_false];rfl)
 by_cases hw1:w<2
 · exact out (.inl hw1)
 by_cases hw2:1000<w
 · exact out (.inr (.inl hw2))
 by_cases hls:ls≤10
 case neg=>exact out (.inr (.inr (.inl hls)))
 by_cases hld:ld≤40
 case neg=>exact out (.inr (.inr (.inr hld)))
 have q1:bD (mL w zs) ls=bD (kY w zs) ls:=jR fun i _=>DR w zs i
 have q2:bD (mM ls zd) ld=bD (fF ls zd) ld:=jR fun i _=>DS ls zd i
 refine gw (n:=n+10) Try.func19 rfl rfl rfl (RO n w ls ld zs zd H (bD (fun i=>bD (qi zs i) i) ls) (ml (mL w zs) ls) (ml (mM ls zd) ld) (zs (fN (fun i=>bD (qi zs i) i) ls 0*2)) (zs (fN (fun i=>bD (qi zs i) i) ls 0*2+1))) (bQ _ (n+6) 4 (fun k=>fG (fG (bB _) (fun x hx=>?_)) (fun x hx=>?_))) (bf (ah _ _) Px (fun x hx=>Rr (n+8) w ls ld zs zd H hls x hx)) (ai _ _) (y:=((.int .i64 (bN w ls ld zs zd),if bD (kY w zs) ls then some 1 else if bD (fun i=>bD (qi zs i) i) ls then none else some 1),H)) ?_
 · rw[← Tr.ab hx,show n+6+k=n+k+6 by omega]
   exact PT (n+k) w ls ld zs zd H hls (by omega)
 · rw[← Tr.ab hx,show n+6+k=n+k+6 by omega]
   exact PV (n+k) w ls ld zs zd H hld
 · rw[Tr.b8,dW,decide_eq_true (by decide),cond_true,Tr.run_ite,cj,decide_eq_false (by simpa using hw1),cond_false,Tr.run_ite,cj,decide_eq_false (by simpa using hw2),cond_false,Tr.run_ite,cj,decide_eq_false (by simp;omega),cond_false,Tr.run_ite,cj,decide_eq_false (by simp;omega),cond_false,Tr.bc ⟨rfl,rfl⟩,Tr.run_ite,uO,q1]
   have e3:¬ 10<ls:=by omega
   have e4:¬ 40<ld:=by omega
   simp only[bN,hw1,hw2,e3,e4,decide_false,cond_false]
   cases bD (kY w zs) ls with
   | true=>rfl
   | false =>
     rw[cond_false,Tr.bc (by simp),Tr.run_ite]
     cases bD (fun i=>bD (qi zs i) i) ls with
     | true=>rfl
     | false =>
       rw[cond_false,Tr.bc (by simp),Tr.run_ite,uO,q2]
       cases bD (fF ls zd) ld<;>rfl
end
end Go.Eng
end
section
namespace Go.Eng
open Go.Proofs
set_option linter.unusedVariables false
set_option linter.unusedSimpArgs false
set_option maxRecDepth 100000
noncomputable def gZ (w:Int) (ls ld:Nat) (zs zd sz kd:Nat→Int) (rest:List (Nat×aj)):b6:=⟨false,(0,.row (.G [.int .i64 w,aU 2 ls zs,aU 3 ld zd]))::(0,.row (.M [.arr .i64 sz (aI ls 2)]))::(0,.row (.M [.one (.int .i64 w),.one (aU 2 ls zs),.one (aU 3 ld zd),.one (.slc 0 1 0 0 2 ls (some ls)),.arr .i64 kd 144]))::(0,.row (.G [.ptr 0 2 0 0]))::rest⟩
noncomputable def v9 (ld:Nat) (zd:Nat→Int) (j:Int):aO:=[(3,AV.ptr 0 3 0 0),(17,aU 3 ld zd),(18,AV.int .i64 (Int.ofNat ld)),(19,AV.int .i64 j)]
noncomputable def xS (n f nt d i:Nat):Cx:=⟨Try.prog,cd n,100000,f,nt,Kt.kt f,some (d,i)⟩
noncomputable def qg (s:Nat):AV:=.ptrT (some s) (.G [.ptr 0 2 0 0]) 0
noncomputable def pT (p:Int) (rest:List (Nat×aj)):b6:=⟨false,(0,.row (.I .i64 [p]))::rest⟩
def yg (bo:Int→Int→Int→Int→Int→Int→Bool):List AV→Option (Prop×AV)
 | [.int .i64 a,.int .i64 c,.agg (.I .i64 [x,y]),.agg (.I .i64 [x',y'])]=>some (True,.bool (bo a c x y x' y'))
 | _=>none
noncomputable def hT (pp w:Int) (ls ld:Nat) (zs zd sz kd:Nat→Int) (H:ae) (L Li:bw):ae:=af::af::pT pp [(0,.loop Li)]::af::gZ w ls ld zs zd sz kd [(0,.loop L)]::H
def ft (zd:Nat→Int):Nat→Nat→Int
 | 0=>fun _=>0
 | j+1=>fun i=>if i=(zd (j*3)).toNat*2+1 then IntKind.i64.wrap (ft zd j ((zd (j*3)).toNat*2+1)+zd (j*3+2)) else if i=(zd (j*3)).toNat*2 then IntKind.i64.wrap (ft zd j ((zd (j*3)).toNat*2)+zd (j*3+1)) else ft zd j i
theorem t77 (n:Nat) (w:Int) (ls ld:Nat) (zs zd sz kd:Nat→Int) (H:ae) (j:Int):aH (bF n 77 94) (il aG n 0) aJ aK (part Try.f77 [1,1,0,1,0,0]) (hints (v9 ld zd j)) (gZ w ls ld zs zd sz kd []::H) =
 (fun (Z0:Nat×aj)=>Tr.ite (bA j (Int.ofNat ld)) (Tr.req (br j ld) (Tr.req (bt (al 0 j 3) (aI ld 3)) (Tr.req (bt (au (al 0 j 3) 1) (aI ld 3)) (Tr.req (bt (au (al 0 j 3) 2) (aI ld 3)) (Tr.req (br (zd (al 0 j 3)) ls) (Tr.req (dH 0 0) (Tr.req (bt (al 0 (zd (al 0 j 3)) 2) (aI ls 2)) (Tr.req (dH 0 0) (Tr.req (bt (al 0 (zd (al 0 j 3)) 2) (aI ls 2)) (Tr.req (cX (cB 0 0) (cB 0 1)) (Tr.req (dH 0 0) (Tr.req (bt (au (al 0 (zd (al 0 j 3)) 2) 1) (aI ls 2)) (Tr.req (dH 0 0) (Tr.req (bt (au (al 0 (zd (al 0 j 3)) 2) 1) (aI ls 2)) (Tr.req (cX (cB 0 0) (cB 0 1)) (Tr.ok (Ex.normal,[(3,AV.ptr 0 3 0 0,none),(17,aU 3 ld zd,none),(18,AV.int .i64 (Int.ofNat ld),none),(19,AV.int .i64 (ay .i64 j (Int.ofNat 1)),none)],{ lock:=false,bs:=[(0,aj.row (Row.G [AV.int .i64 w,aU 2 ls zs,aU 3 ld zd])),(0,aj.row (Row.M [aC.arr .i64 (fO (fO sz (al 0 (zd (al 0 j 3)) 2) (ay .i64 (sz (al 0 (zd (al 0 j 3)) 2)) (zd (au (al 0 j 3) 1)))) (au (al 0 (zd (al 0 j 3)) 2) 1) (ay .i64 (fO sz (al 0 (zd (al 0 j 3)) 2) (ay .i64 (sz (al 0 (zd (al 0 j 3)) 2)) (zd (au (al 0 j 3) 1))) (au (al 0 (zd (al 0 j 3)) 2) 1)) (zd (au (al 0 j 3) 2)))) (aI ls 2)])),Z0,(0,aj.row (Row.G [AV.ptr 0 2 0 0])),(0,aj.row (Row.I .i64 [zd (al 0 j 3),zd (au (al 0 j 3) 1),zd (au (al 0 j 3) 2)]))] } :: H))))))))))))))))) (Tr.ok (Ex.exit 0,[(3,AV.ptr 0 3 0 0,none),(17,aU 3 ld zd,none),(18,AV.int .i64 (Int.ofNat ld),none),(19,AV.int .i64 j,none),(20,AV.bool false,some 1)],{ lock:=false,bs:=[(0,aj.row (Row.G [AV.int .i64 w,aU 2 ls zs,aU 3 ld zd])),(0,aj.row (Row.M [aC.arr .i64 sz (aI ls 2)])),Z0,(0,aj.row (Row.G [AV.ptr 0 2 0 0]))] } :: H))) (0,aj.row (Row.M [aC.one (AV.int .i64 w),aC.one (aU 2 ls zs),aC.one (aU 3 ld zd),aC.one (AV.slc 0 1 0 0 2 ls (some ls)),aC.arr .i64 kd 144])):=by kernel_rfl
theorem Ou (n:Nat) (a c x y x' y':Int) (H:ae):aW Try.prog (cd n) 100000 112 Try.f112 (Kt.kt 112) (il aG n 0) aJ aK [(.int .i64 a,none),(.int .i64 c,none),(.agg (.I .i64 [x,y]),none),(.agg (.I .i64 [x',y']),none)] H =
 Tr.ite (bA (Int.ofNat 0) c) (Tr.ite (dA (az .i64 (az .i64 (ay .i64 (bS .i64 (az .i64 x x') (az .i64 x x')) (bS .i64 (az .i64 y y') (az .i64 y y'))) a) c) (Int.ofNat 0)) (Tr.ok ((AV.bool true,some 1),H)) (Tr.ok ((AV.bool (dA (bS .i64 (az .i64 (az .i64 (ay .i64 (bS .i64 (az .i64 x x') (az .i64 x x')) (bS .i64 (az .i64 y y') (az .i64 y y'))) a) c) (az .i64 (az .i64 (ay .i64 (bS .i64 (az .i64 x x') (az .i64 x x')) (bS .i64 (az .i64 y y') (az .i64 y y'))) a) c)) (bS .i64 (bS .i64 (Int.ofNat 4) a) c)),none),H))) (Tr.ok ((AV.bool false,some 1),H)):=by kernel_rfl
def kZ (a c x y x' y':Int):Bool :=
 let wr:=IntKind.i64.wrap
 let lack:=wr (wr (wr (wr (wr (x-x')*wr (x-x'))+wr (wr (y-y')*wr (y-y')))-a)-c)
 decide (0<c) && (decide (lack≤0) || decide (wr (lack*lack)≤wr (wr (4*a)*c)))
theorem LR (n:Nat) (a c x y x' y':Int) (H:ae):cd (n+1) (.fn 112) [.int .i64 a,.int .i64 c,.agg (.I .i64 [x,y]),.agg (.I .i64 [x',y'])] H=some (.bool (kZ a c x y x' y'),H):=by
 refine gw Try.func112 rfl rfl rfl (Ou n a c x y x' y' H) (bk n) (ah _ _) (ai _ _) (y:=((.bool (kZ a c x y x' y'),if 0<c then (if dA (az .i64 (az .i64 (ay .i64 (bS .i64 (az .i64 x x') (az .i64 x x')) (bS .i64 (az .i64 y y') (az .i64 y y'))) a) c) 0 then some 1 else none) else some 1),H)) ?_
 have e0:Int.ofNat 0=0:=rfl
 have e4:Int.ofNat 4=4:=rfl
 simp only[Tr.run_ite,kZ,cj,er,aQ,aR,bu,Tr.gp,e0,e4]
 by_cases h1:0<c
 · simp only[h1,decide_true,cond_true,Bool.true_and,if_true]
   generalize IntKind.i64.wrap (IntKind.i64.wrap (IntKind.i64.wrap (IntKind.i64.wrap (IntKind.i64.wrap (x-x')*IntKind.i64.wrap (x-x'))+IntKind.i64.wrap (IntKind.i64.wrap (y-y')*IntKind.i64.wrap (y-y')))-a)-c)=lack
   by_cases h2:lack≤0
   · simp only[h2,decide_true,cond_true,Bool.true_or,if_true]
   · simp only[h2,decide_false,cond_false,Bool.false_or,Bool.false_eq_true,if_false]
 · simp only[h1,decide_false,cond_false,Bool.false_and,if_false]
section
variable (n:Nat) (w:Int) (ls ld:Nat) (zs zd kd:Nat→Int) (H:ae)
theorem Rv (h1:ld≤40) (hd:∀ j,j<ld→0≤zd (j*3)∧zd (j*3)<ls):exec (bF n 77 94) (.block 0 (.loop (part Try.f77 [1,1,0,1,0,0]))) (v9 ld zd (Int.ofNat 0)) (gZ w ls ld zs zd (ft zd 0) kd []::H)=some (.normal,v9 ld zd (Int.ofNat ld)++[(20,AV.bool false)],gZ w ls ld zs zd (ft zd ld) kd []::H):=by
 refine G7 (bk n) (ah _ _) (ai _ _) 0 (fun j=>v9 ld zd (Int.ofNat j)) (fun j=>gZ w ls ld zs zd (ft zd j) kd []::H) ld (.exit 0,hints (v9 ld zd (Int.ofNat ld))++[(20,AV.bool false,some 1)],gZ w ls ld zs zd (ft zd ld) kd []::H) (by omega) (fun j hj=>?_) ⟨?_,rfl⟩
 · obtain ⟨d1,d2⟩:=hd j hj
   refine ⟨hints (v9 ld zd (Int.ofNat (j+1))),gZ w ls ld zs zd (ft zd (j+1)) kd [(0,.row (.I .i64 [zd (j*3),zd (j*3+1),zd (j*3+2)]))]::H,?_,aw _,rfl⟩
   rw[t77]
   have hz:fO (fO (ft zd j) ((zd (j*3)).toNat*2) (IntKind.i64.wrap (ft zd j ((zd (j*3)).toNat*2)+zd (j*3+1)))) ((zd (j*3)).toNat*2+1) (IntKind.i64.wrap (fO (ft zd j) ((zd (j*3)).toNat*2) (IntKind.i64.wrap (ft zd j ((zd (j*3)).toNat*2)+zd (j*3+1))) ((zd (j*3)).toNat*2+1)+zd (j*3+2)))=ft zd (j+1):=by
    rw[eF]
    funext i
    simp only[ft]
    by_cases e1:i=(zd (j*3)).toNat*2+1
    · rw[if_pos e1,if_pos e1,if_neg (by omega)]
    · rw[if_neg e1,if_neg e1]
   simp (disch:=omega) only[nX,nS,bY,cu,decide_true]
   rw[hz]
   rfl
 · rw[t77]
   simp (disch:=omega) only[nX,nS,bY]
   rfl
end
end Go.Eng
end
section
namespace Go.Eng
open Go.Proofs
set_option linter.unusedVariables false
set_option linter.unusedSimpArgs false
set_option maxRecDepth 100000
noncomputable def GU (t:lR) (f:FuncId) (H0:ae) (g:List AV→Option (Prop×AV)):lR:=fun x=>cond (Nat.beq x f) (some fun args H=>match g (py args) with
 | some (p,v)=>.reqP (p∧H=H0) (.ok ((v,none),H0))
 | none=>.bad) (t x)
theorem B4 {t:lR} {f:FuncId} {H0:ae} {g:List AV→Option (Prop×AV)} {call:bG} (h:t.Ok call) (k:∀ args p v,g args=some (p,v)→p→call (.fn f) args H0=some (v,H0)):(GU t f H0 g).Ok call:=by
 intro f' g' hg args H x hx
 unfold GU at hg
 cases hb:Nat.beq f' f with
 | true =>
   rw[hb,cond_true,Option.some.injEq] at hg
   have:=Nat.eq_of_beq_eq_true hb
   subst this;subst hg
   dsimp only at hx
   split at hx
   · rename_i p v hp
     obtain ⟨⟨e1,e2⟩,hx⟩:=Tr.fX hx
     subst e2
     rw[k _ p v hp e1,← Tr.ab hx]
   · exact (Tr.ag hx).elim
 | false =>
   rw[hb,cond_false] at hg
   exact h _ _ hg _ _ _ hx
theorem bj {α:Type} {a:Tr α}:(Tr.reqP True a).run=a.run:=Tr.bc trivial
theorem aP (x y:Int):aF x y=decide (x=y):=by rw[bY,Bool.eq_iff_iff];simp
def aV (w:Int) (zs:Nat→Int) (so:Int→Int) (p q:Int):Bool :=
 if p<0∧q<0 then false
 else
  let s:=if p<0 then q else p
  let o:=if p<0 then p else q
  if so s=0 then false
  else if o=-2 then decide (IntKind.i64.wrap (IntKind.i64.wrap (w-zs (s.toNat*2))*IntKind.i64.wrap (w-zs (s.toNat*2)))≤so s)
  else if 0≤o then kZ (so s) (so o) (zs (s.toNat*2)) (zs (s.toNat*2+1)) (zs (o.toNat*2)) (zs (o.toNat*2+1))
  else decide (IntKind.i64.wrap (zs (s.toNat*2)*zs (s.toNat*2))≤so s)
theorem Jf (n k:Nat) (t:lR) (ht:t.Ok (cd (n+1+k))):(b7 t 112 (yg kZ)).Ok (cd (n+1+k)):=by
 refine bI ht (fun args p v h hp H=>?_)
 unfold yg at h
 split at h
 · simp only[nP] at h
   obtain ⟨rfl,rfl⟩:=h
   rw[show n+1+k=n+k+1 by omega]
   exact LR (n+k) _ _ _ _ _ _ H
 · cases h
theorem O1 (n:Nat) (w pp p q:Int) (ls ld:Nat) (zs zd sz kd:Nat→Int) (H:ae) (L Li:bw) (bo:Int→Int→Int→Int→Int→Int→Bool):aW Try.prog (cd (n+2)) 100000 99 Try.f99 (Kt.kt 99) (il (b7 aG 112 (yg bo)) (n+1) 1) aJ aK [(.ptr 4 2 0 0,none),(.int .i64 p,none),(.int .i64 q,none),(.fn (.func 100) [.ptr 4 2 0 0] [],none)] (hT pp w ls ld zs zd sz kd H L Li) =
 (fun (Z0:b6)=>((fun (Z1:b6)=>((fun (Z2:AV×Option Nat)=>((fun (Z3:AV×Option Nat)=>((fun (Z4:AV×Option Nat)=>((fun (Z5:AV×Option Nat)=>Tr.ite (bA p (Int.ofNat 0)) (Tr.ite (bA q (Int.ofNat 0)) (Tr.ok ((AV.bool false,some 1),af::af::Z1::af::Z0::H)) (Tr.ite (bA p (Int.ofNat 0)) (Tr.req (br q ls) (Tr.req (bt (al 0 q 2) (aI ls 2)) (Tr.req (bt (au (al 0 q 2) 1) (aI ls 2)) (Tr.req (br q ls) (Tr.req (dH 0 0) (Tr.req (bt (al 0 q 2) (aI ls 2)) (Tr.req (cX (cB 0 0) (cB 0 1)) (Tr.ite (aF (sz (al 0 q 2)) (Int.ofNat 0)) (Tr.ok ((AV.bool false,some 1),af::af::Z1::af::Z0::H)) (Tr.ite (aF p (Int.negSucc 1)) (Tr.ok (Z4,af::af::Z1::af::Z0::H)) (Tr.ite (dA (Int.ofNat 0) p) (Tr.req (br p ls) (Tr.req (dH 0 0) (Tr.req (bt (al 0 p 2) (aI ls 2)) (Tr.req (br p ls) (Tr.req (bt (al 0 p 2) (aI ls 2)) (Tr.req (bt (au (al 0 p 2) 1) (aI ls 2)) (Tr.reqP True (Tr.ok (Z2,af::af::Z1::af::Z0::H))))))))) (Tr.ok ((AV.bool (dA (bS .i64 (zs (al 0 q 2)) (zs (al 0 q 2))) (sz (al 0 q 2))),none),af::af::Z1::af::Z0::H)))))))))))) (Tr.req (br p ls) (Tr.req (bt (al 0 p 2) (aI ls 2)) (Tr.req (bt (au (al 0 p 2) 1) (aI ls 2)) (Tr.req (br p ls) (Tr.req (dH 0 0) (Tr.req (bt (al 0 p 2) (aI ls 2)) (Tr.req (cX (cB 0 0) (cB 0 1)) (Tr.ite (aF (sz (al 0 p 2)) (Int.ofNat 0)) (Tr.ok ((AV.bool false,some 1),af::af::Z1::af::Z0::H)) (Tr.ite (aF q (Int.negSucc 1)) (Tr.ok (Z5,af::af::Z1::af::Z0::H)) (Tr.ite (dA (Int.ofNat 0) q) (Tr.req (br q ls) (Tr.req (dH 0 0) (Tr.req (bt (al 0 q 2) (aI ls 2)) (Tr.req (br q ls) (Tr.req (bt (al 0 q 2) (aI ls 2)) (Tr.req (bt (au (al 0 q 2) 1) (aI ls 2)) (Tr.reqP True (Tr.ok (Z3,af::af::Z1::af::Z0::H))))))))) (Tr.ok ((AV.bool (dA (bS .i64 (zs (al 0 p 2)) (zs (al 0 p 2))) (sz (al 0 p 2))),none),af::af::Z1::af::Z0::H)))))))))))))) (Tr.ite (bA p (Int.ofNat 0)) (Tr.req (br q ls) (Tr.req (bt (al 0 q 2) (aI ls 2)) (Tr.req (bt (au (al 0 q 2) 1) (aI ls 2)) (Tr.req (br q ls) (Tr.req (dH 0 0) (Tr.req (bt (al 0 q 2) (aI ls 2)) (Tr.req (cX (cB 0 0) (cB 0 1)) (Tr.ite (aF (sz (al 0 q 2)) (Int.ofNat 0)) (Tr.ok ((AV.bool false,some 1),af::af::Z1::af::Z0::H)) (Tr.ite (aF p (Int.negSucc 1)) (Tr.ok (Z4,af::af::Z1::af::Z0::H)) (Tr.ite (dA (Int.ofNat 0) p) (Tr.req (br p ls) (Tr.req (dH 0 0) (Tr.req (bt (al 0 p 2) (aI ls 2)) (Tr.req (br p ls) (Tr.req (bt (al 0 p 2) (aI ls 2)) (Tr.req (bt (au (al 0 p 2) 1) (aI ls 2)) (Tr.reqP True (Tr.ok (Z2,af::af::Z1::af::Z0::H))))))))) (Tr.ok ((AV.bool (dA (bS .i64 (zs (al 0 q 2)) (zs (al 0 q 2))) (sz (al 0 q 2))),none),af::af::Z1::af::Z0::H)))))))))))) (Tr.req (br p ls) (Tr.req (bt (al 0 p 2) (aI ls 2)) (Tr.req (bt (au (al 0 p 2) 1) (aI ls 2)) (Tr.req (br p ls) (Tr.req (dH 0 0) (Tr.req (bt (al 0 p 2) (aI ls 2)) (Tr.req (cX (cB 0 0) (cB 0 1)) (Tr.ite (aF (sz (al 0 p 2)) (Int.ofNat 0)) (Tr.ok ((AV.bool false,some 1),af::af::Z1::af::Z0::H)) (Tr.ite (aF q (Int.negSucc 1)) (Tr.ok (Z5,af::af::Z1::af::Z0::H)) (Tr.ite (dA (Int.ofNat 0) q) (Tr.req (br q ls) (Tr.req (dH 0 0) (Tr.req (bt (al 0 q 2) (aI ls 2)) (Tr.req (br q ls) (Tr.req (bt (al 0 q 2) (aI ls 2)) (Tr.req (bt (au (al 0 q 2) 1) (aI ls 2)) (Tr.reqP True (Tr.ok (Z3,af::af::Z1::af::Z0::H))))))))) (Tr.ok ((AV.bool (dA (bS .i64 (zs (al 0 p 2)) (zs (al 0 p 2))) (sz (al 0 p 2))),none),af::af::Z1::af::Z0::H)))))))))))))) (AV.bool (dA (bS .i64 (az .i64 w (zs (al 0 p 2))) (az .i64 w (zs (al 0 p 2)))) (sz (al 0 p 2))),none))) (AV.bool (dA (bS .i64 (az .i64 w (zs (al 0 q 2))) (az .i64 w (zs (al 0 q 2)))) (sz (al 0 q 2))),none))) (AV.bool (bo (sz (al 0 p 2)) (sz (al 0 q 2)) (zs (al 0 p 2)) (zs (au (al 0 p 2) 1)) (zs (al 0 q 2)) (zs (au (al 0 q 2) 1))),none))) (AV.bool (bo (sz (al 0 q 2)) (sz (al 0 p 2)) (zs (al 0 q 2)) (zs (au (al 0 q 2) 1)) (zs (al 0 p 2)) (zs (au (al 0 p 2) 1))),none))) { lock:=false,bs:=[(0,aj.row (Row.I .i64 [pp])),(0,aj.loop Li)] })) { lock:=false,bs:=[(0,aj.row (Row.G [AV.int .i64 w,aU 2 ls zs,aU 3 ld zd])),(0,aj.row (Row.M [aC.arr .i64 sz (aI ls 2)])),(0,aj.row (Row.M [aC.one (AV.int .i64 w),aC.one (aU 2 ls zs),aC.one (aU 3 ld zd),aC.one (AV.slc 0 1 0 0 2 ls (some ls)),aC.arr .i64 kd 144])),(0,aj.row (Row.G [AV.ptr 0 2 0 0])),(0,aj.loop L)] }:=by kernel_rfl
theorem O2 (n:Nat) (w pp p q:Int) (ls ld:Nat) (zs zd sz kd:Nat→Int) (H:ae) (L Li:bw) (bo:Int→Int→Int→Int→Int→Int→Bool):aW Try.prog (cd (n+2)) 100000 99 Try.f99 (Kt.kt 99) (il (b7 aG 112 (yg bo)) (n+1) 1) aJ aK [(.ptr 4 2 0 0,none),(.int .i64 p,none),(.int .i64 q,none),(.fn (.func 101) [.ptr 4 2 0 0] [],none)] (hT pp w ls ld zs zd sz kd H L Li) =
 (fun (Z0:b6)=>((fun (Z1:b6)=>((fun (Z2:AV×Option Nat)=>((fun (Z3:AV×Option Nat)=>((fun (Z4:AV×Option Nat)=>((fun (Z5:AV×Option Nat)=>Tr.ite (bA p (Int.ofNat 0)) (Tr.ite (bA q (Int.ofNat 0)) (Tr.ok ((AV.bool false,some 1),af::af::Z1::af::Z0::H)) (Tr.ite (bA p (Int.ofNat 0)) (Tr.req (br q ls) (Tr.req (bt (al 0 q 2) (aI ls 2)) (Tr.req (bt (au (al 0 q 2) 1) (aI ls 2)) (Tr.req (br q ls) (Tr.req (dH 0 0) (Tr.req (bt (au (al 0 q 2) 1) (aI ls 2)) (Tr.req (cX (cB 0 0) (cB 0 1)) (Tr.ite (aF (sz (au (al 0 q 2) 1)) (Int.ofNat 0)) (Tr.ok ((AV.bool false,some 1),af::af::Z1::af::Z0::H)) (Tr.ite (aF p (Int.negSucc 1)) (Tr.ok (Z4,af::af::Z1::af::Z0::H)) (Tr.ite (dA (Int.ofNat 0) p) (Tr.req (br p ls) (Tr.req (dH 0 0) (Tr.req (bt (au (al 0 p 2) 1) (aI ls 2)) (Tr.req (br p ls) (Tr.req (bt (al 0 p 2) (aI ls 2)) (Tr.req (bt (au (al 0 p 2) 1) (aI ls 2)) (Tr.reqP True (Tr.ok (Z2,af::af::Z1::af::Z0::H))))))))) (Tr.ok ((AV.bool (dA (bS .i64 (zs (al 0 q 2)) (zs (al 0 q 2))) (sz (au (al 0 q 2) 1))),none),af::af::Z1::af::Z0::H)))))))))))) (Tr.req (br p ls) (Tr.req (bt (al 0 p 2) (aI ls 2)) (Tr.req (bt (au (al 0 p 2) 1) (aI ls 2)) (Tr.req (br p ls) (Tr.req (dH 0 0) (Tr.req (bt (au (al 0 p 2) 1) (aI ls 2)) (Tr.req (cX (cB 0 0) (cB 0 1)) (Tr.ite (aF (sz (au (al 0 p 2) 1)) (Int.ofNat 0)) (Tr.ok ((AV.bool false,some 1),af::af::Z1::af::Z0::H)) (Tr.ite (aF q (Int.negSucc 1)) (Tr.ok (Z5,af::af::Z1::af::Z0::H)) (Tr.ite (dA (Int.ofNat 0) q) (Tr.req (br q ls) (Tr.req (dH 0 0) (Tr.req (bt (au (al 0 q 2) 1) (aI ls 2)) (Tr.req (br q ls) (Tr.req (bt (al 0 q 2) (aI ls 2)) (Tr.req (bt (au (al 0 q 2) 1) (aI ls 2)) (Tr.reqP True (Tr.ok (Z3,af::af::Z1::af::Z0::H))))))))) (Tr.ok ((AV.bool (dA (bS .i64 (zs (al 0 p 2)) (zs (al 0 p 2))) (sz (au (al 0 p 2) 1))),none),af::af::Z1::af::Z0::H)))))))))))))) (Tr.ite (bA p (Int.ofNat 0)) (Tr.req (br q ls) (Tr.req (bt (al 0 q 2) (aI ls 2)) (Tr.req (bt (au (al 0 q 2) 1) (aI ls 2)) (Tr.req (br q ls) (Tr.req (dH 0 0) (Tr.req (bt (au (al 0 q 2) 1) (aI ls 2)) (Tr.req (cX (cB 0 0) (cB 0 1)) (Tr.ite (aF (sz (au (al 0 q 2) 1)) (Int.ofNat 0)) (Tr.ok ((AV.bool false,some 1),af::af::Z1::af::Z0::H)) (Tr.ite (aF p (Int.negSucc 1)) (Tr.ok (Z4,af::af::Z1::af::Z0::H)) (Tr.ite (dA (Int.ofNat 0) p) (Tr.req (br p ls) (Tr.req (dH 0 0) (Tr.req (bt (au (al 0 p 2) 1) (aI ls 2)) (Tr.req (br p ls) (Tr.req (bt (al 0 p 2) (aI ls 2)) (Tr.req (bt (au (al 0 p 2) 1) (aI ls 2)) (Tr.reqP True (Tr.ok (Z2,af::af::Z1::af::Z0::H))))))))) (Tr.ok ((AV.bool (dA (bS .i64 (zs (al 0 q 2)) (zs (al 0 q 2))) (sz (au (al 0 q 2) 1))),none),af::af::Z1::af::Z0::H)))))))))))) (Tr.req (br p ls) (Tr.req (bt (al 0 p 2) (aI ls 2)) (Tr.req (bt (au (al 0 p 2) 1) (aI ls 2)) (Tr.req (br p ls) (Tr.req (dH 0 0) (Tr.req (bt (au (al 0 p 2) 1) (aI ls 2)) (Tr.req (cX (cB 0 0) (cB 0 1)) (Tr.ite (aF (sz (au (al 0 p 2) 1)) (Int.ofNat 0)) (Tr.ok ((AV.bool false,some 1),af::af::Z1::af::Z0::H)) (Tr.ite (aF q (Int.negSucc 1)) (Tr.ok (Z5,af::af::Z1::af::Z0::H)) (Tr.ite (dA (Int.ofNat 0) q) (Tr.req (br q ls) (Tr.req (dH 0 0) (Tr.req (bt (au (al 0 q 2) 1) (aI ls 2)) (Tr.req (br q ls) (Tr.req (bt (al 0 q 2) (aI ls 2)) (Tr.req (bt (au (al 0 q 2) 1) (aI ls 2)) (Tr.reqP True (Tr.ok (Z3,af::af::Z1::af::Z0::H))))))))) (Tr.ok ((AV.bool (dA (bS .i64 (zs (al 0 p 2)) (zs (al 0 p 2))) (sz (au (al 0 p 2) 1))),none),af::af::Z1::af::Z0::H)))))))))))))) (AV.bool (dA (bS .i64 (az .i64 w (zs (al 0 p 2))) (az .i64 w (zs (al 0 p 2)))) (sz (au (al 0 p 2) 1))),none))) (AV.bool (dA (bS .i64 (az .i64 w (zs (al 0 q 2))) (az .i64 w (zs (al 0 q 2)))) (sz (au (al 0 q 2) 1))),none))) (AV.bool (bo (sz (au (al 0 p 2) 1)) (sz (au (al 0 q 2) 1)) (zs (al 0 p 2)) (zs (au (al 0 p 2) 1)) (zs (al 0 q 2)) (zs (au (al 0 q 2) 1))),none))) (AV.bool (bo (sz (au (al 0 q 2) 1)) (sz (au (al 0 p 2) 1)) (zs (al 0 q 2)) (zs (au (al 0 q 2) 1)) (zs (al 0 p 2)) (zs (au (al 0 p 2) 1))),none))) { lock:=false,bs:=[(0,aj.row (Row.I .i64 [pp])),(0,aj.loop Li)] })) { lock:=false,bs:=[(0,aj.row (Row.G [AV.int .i64 w,aU 2 ls zs,aU 3 ld zd])),(0,aj.row (Row.M [aC.arr .i64 sz (aI ls 2)])),(0,aj.row (Row.M [aC.one (AV.int .i64 w),aC.one (aU 2 ls zs),aC.one (aU 3 ld zd),aC.one (AV.slc 0 1 0 0 2 ls (some ls)),aC.arr .i64 kd 144])),(0,aj.row (Row.G [AV.ptr 0 2 0 0])),(0,aj.loop L)] }:=by kernel_rfl
theorem JH (n:Nat):(il (b7 aG 112 (yg kZ)) (n+1) 1).Ok (cd (n+2)):=bQ _ (n+1) 1 (fun k=>Jf n k _ (bB _))
section
variable (n:Nat) (w pp p q:Int) (ls ld:Nat) (zs zd sz kd:Nat→Int) (H:ae) (L Li:bw)
theorem Me (hp:p<ls) (hq:q<ls) (hls:ls≤10):cd (n+3) (.fn 99) [.ptr 4 2 0 0,.int .i64 p,.int .i64 q,.fn (.func 100) [.ptr 4 2 0 0] []] (hT pp w ls ld zs zd sz kd H L Li)=some (.bool (aV w zs (fun s=>sz (s.toNat*2)) p q),hT pp w ls ld zs zd sz kd H L Li):=by
 obtain ⟨y, hy1,hy2⟩:∃ y,(aW Try.prog (cd (n+2)) 100000 99 Try.f99 (Kt.kt 99) (il (b7 aG 112 (yg kZ)) (n+1) 1) aJ aK [(.ptr 4 2 0 0,none),(.int .i64 p,none),(.int .i64 q,none),(.fn (.func 100) [.ptr 4 2 0 0] [],none)] (hT pp w ls ld zs zd sz kd H L Li)).run=some y∧(y.1.1,y.2)=(AV.bool (aV w zs (fun s=>sz (s.toNat*2)) p q),hT pp w ls ld zs zd sz kd H L Li):=by
  rw[O1]
  have e2:Int.negSucc 1=-2:=rfl
  by_cases h1:p<0<;>by_cases h2:q<0
  · refine ⟨_,by simp (disch:=omega) only[nX,nS,aP,cu,decide_true,aQ,bu,e2,bj];rfl,?_⟩
    simp only[aV,h1,h2,and_self,if_true];rfl
  · by_cases h3:sz (q.toNat*2)=0
    · refine ⟨_,by simp (disch:=omega) only[nX,nS,aP,cu,decide_true,aQ,bu,e2,bj];rfl,?_⟩
      simp only[aV,h1,h2,and_false,if_false,if_true,h3];rfl
    · by_cases h4:p=-2
      · refine ⟨_,by simp (disch:=omega) only[nX,nS,aP,cu,decide_true,aQ,bu,e2,bj];rfl,?_⟩
        subst h4
        simp only[aV,h1,h2,and_false,if_false,if_true,h3];rfl
      · refine ⟨_,by simp (disch:=omega) only[nX,nS,aP,cu,decide_true,aQ,bu,e2,bj];rfl,?_⟩
        have h5:¬ 0≤p:=by omega
        simp only[aV,h1,h2,and_false,if_false,if_true,h3,h4,h5];rfl
  all_goals
   by_cases h3:sz (p.toNat*2)=0
   · refine ⟨_,by simp (disch:=omega) only[nX,nS,aP,cu,decide_true,aQ,bu,e2,bj];rfl,?_⟩
     simp only[aV,h1,h2,false_and,and_false,and_true,if_false,if_true,h3];rfl
   · by_cases h4:q=-2
     · first
       | (exfalso;omega)
       | (refine ⟨_,by simp (disch:=omega) only[nX,nS,aP,cu,decide_true,aQ,bu,e2,bj];rfl,?_⟩
          subst h4
          simp only[aV,h1,h2,false_and,and_false,and_true,if_false,if_true,h3];rfl)
     · by_cases h5:0≤q
       · first
         | (exfalso;omega)
         | (refine ⟨_,by simp (disch:=omega) only[nX,nS,aP,cu,decide_true,aQ,bu,e2,bj];rfl,?_⟩
            simp only[aV,h1,h2,false_and,and_false,and_true,if_false,if_true,h3,h4,h5];rfl)
       · first
         | (exfalso;omega)
         | (refine ⟨_,by simp (disch:=omega) only[nX,nS,aP,cu,decide_true,aQ,bu,e2,bj];rfl,?_⟩
            simp only[aV,h1,h2,false_and,and_false,and_true,if_false,if_true,h3,h4,h5];rfl)
 have:=nN (n:=n+2) Try.func99 rfl rfl (args:=[(.ptr 4 2 0 0,none),(.int .i64 p,none),(.int .i64 q,none),(.fn (.func 100) [.ptr 4 2 0 0] [],none)]) rfl (JH n) (ah _ _) (ai _ _) hy1
 rw[hy2] at this
 exact this
theorem Mf (hp:p<ls) (hq:q<ls) (hls:ls≤10):cd (n+3) (.fn 99) [.ptr 4 2 0 0,.int .i64 p,.int .i64 q,.fn (.func 101) [.ptr 4 2 0 0] []] (hT pp w ls ld zs zd sz kd H L Li)=some (.bool (aV w zs (fun s=>sz (s.toNat*2+1)) p q),hT pp w ls ld zs zd sz kd H L Li):=by
 obtain ⟨y, hy1,hy2⟩:∃ y,(aW Try.prog (cd (n+2)) 100000 99 Try.f99 (Kt.kt 99) (il (b7 aG 112 (yg kZ)) (n+1) 1) aJ aK [(.ptr 4 2 0 0,none),(.int .i64 p,none),(.int .i64 q,none),(.fn (.func 101) [.ptr 4 2 0 0] [],none)] (hT pp w ls ld zs zd sz kd H L Li)).run=some y∧(y.1.1,y.2)=(AV.bool (aV w zs (fun s=>sz (s.toNat*2+1)) p q),hT pp w ls ld zs zd sz kd H L Li):=by
  rw[O2]
  have e2:Int.negSucc 1=-2:=rfl
  by_cases h1:p<0<;>by_cases h2:q<0
  · refine ⟨_,by simp (disch:=omega) only[nX,nS,aP,cu,decide_true,aQ,bu,e2,bj];rfl,?_⟩
    simp only[aV,h1,h2,and_self,if_true];rfl
  · by_cases h3:sz (q.toNat*2+1)=0
    · refine ⟨_,by simp (disch:=omega) only[nX,nS,aP,cu,decide_true,aQ,bu,e2,bj];rfl,?_⟩
      simp only[aV,h1,h2,and_false,if_false,if_true,h3];rfl
    · by_cases h4:p=-2
      · refine ⟨_,by simp (disch:=omega) only[nX,nS,aP,cu,decide_true,aQ,bu,e2,bj];rfl,?_⟩
        subst h4
        simp only[aV,h1,h2,and_false,if_false,if_true,h3];rfl
      · refine ⟨_,by simp (disch:=omega) only[nX,nS,aP,cu,decide_true,aQ,bu,e2,bj];rfl,?_⟩
        have h5:¬ 0≤p:=by omega
        simp only[aV,h1,h2,and_false,if_false,if_true,h3,h4,h5];rfl
  all_goals
   by_cases h3:sz (p.toNat*2+1)=0
   · refine ⟨_,by simp (disch:=omega) only[nX,nS,aP,cu,decide_true,aQ,bu,e2,bj];rfl,?_⟩
     simp only[aV,h1,h2,false_and,and_false,and_true,if_false,if_true,h3];rfl
   · by_cases h4:q=-2
     · first
       | (exfalso;omega)
       | (refine ⟨_,by simp (disch:=omega) only[nX,nS,aP,cu,decide_true,aQ,bu,e2,bj];rfl,?_⟩
          subst h4
          simp only[aV,h1,h2,false_and,and_false,and_true,if_false,if_true,h3];rfl)
     · by_cases h5:0≤q
       · first
         | (exfalso;omega)
         | (refine ⟨_,by simp (disch:=omega) only[nX,nS,aP,cu,decide_true,aQ,bu,e2,bj];rfl,?_⟩
            simp only[aV,h1,h2,false_and,and_false,and_true,if_false,if_true,h3,h4,h5];rfl)
       · first
         | (exfalso;omega)
         | (refine ⟨_,by simp (disch:=omega) only[nX,nS,aP,cu,decide_true,aQ,bu,e2,bj];rfl,?_⟩
            simp only[aV,h1,h2,false_and,and_false,and_true,if_false,if_true,h3,h4,h5];rfl)
 have:=nN (n:=n+2) Try.func99 rfl rfl (args:=[(.ptr 4 2 0 0,none),(.int .i64 p,none),(.int .i64 q,none),(.fn (.func 101) [.ptr 4 2 0 0] [],none)]) rfl (JH n) (ah _ _) (ai _ _) hy1
 rw[hy2] at this
 exact this
end
end Go.Eng
end
