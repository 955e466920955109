/- Bath: CheckApart as it is defined. -/
import Derived.Test.YtigmfpmabgekoaaGreatV7Be4x4
namespace Go.Eng
open Go.Proofs
set_option linter.unusedVariables false
set_option linter.unusedSimpArgs false
set_option maxRecDepth 100000
noncomputable def fr34 (l k:Nat) (z b:Nat→Int) (s:Nat) (j:Int):Frm:=[(0,slA 5 l z),(1,sl1 k b false),(s,.int .i64 j)]
noncomputable def fr34d (l k:Nat) (z b:Nat→Int) (i j:Int):Frm:=[(0,slA 5 l z),(1,sl1 k b false),(7,.int .i64 i),(8,.int .i64 j)]
noncomputable def bl34 (l k:Nat) (z b:Nat→Int) (H:Heap) (e1 e2 e3:Bool) (q1 q2:Nat×Blk):BlkT:=blkE (blkE (blkE noBT 4 (fr34 l k z b 7 0) (lvE::H) (.ite e3 (.ok (.ret,[(4,.int .i64 14,none)],⟨false,[q1,q2]⟩::H)) (.ok (.normal,hints (fr34 l k z b 7 (Int.ofNat k)++[(69,.bool false)]),lvE::H)))) 2 (fr34 l k z b 6 0) (lvE::H) (.ite e2 (.ok (.ret,[(4,.int .i64 22,none)],lvE::H)) (.ok (.normal,hints (fr34 l k z b 6 (Int.ofNat k)++[(48,.bool false)]),lvE::H)))) 0 (fr34 l k z b 5 0) (lvE::H) (.ite e1 (.ok (.ret,[(4,.int .i64 3,none)],lvE::H)) (.ok (.normal,hints (fr34 l k z b 5 (Int.ofNat k)++[(19,.bool false)]),lvE::H)))
theorem t34a (n l k:Nat) (z b:Nat→Int) (H:Heap) (j:Int):execT (cxD (n+1) 34 100) (il noCt n 1) noBT noRT (part Tryz.f34 [1,1,0,1,0,0]) (hints (fr34 l k z b 5 j)) (lvE::H) =
 (fun (Z0:HFrm)=>Tr.ite (ltI j (Int.ofNat k)) (Tr.req (inI j k) (Tr.req (ltN (idO 0 j 1) k) (Tr.ite (leI (Int.ofNat 0) (b (idO 0 j 1))) (Tr.ite (notB (ltI (b (idO 0 j 1)) (Int.ofNat l))) (Tr.ok (Ex.ret,[(4,AV.int .i64 (Int.ofNat 3),some 1)],lvE::H)) (Tr.ite (ltI (Int.ofNat 0) j) (Tr.req (inI j k) (Tr.req (ltN (idO 0 j 1) k) (Tr.req (inI (subI .i64 j (Int.ofNat 1)) k) (Tr.req (ltN (idO 0 (subI .i64 j (Int.ofNat 1)) 1) k) (Tr.ite (leI (b (idO 0 j 1)) (b (idO 0 (subI .i64 j (Int.ofNat 1)) 1))) (Tr.ok (Ex.ret,[(4,AV.int .i64 (Int.ofNat 3),some 1)],lvE::H)) (Tr.ok (Ex.normal,Z0,lvE::H))))))) (Tr.ok (Ex.normal,Z0,lvE::H)))) (Tr.ok (Ex.ret,[(4,AV.int .i64 (Int.ofNat 3),some 1)],lvE::H))))) (Tr.ok (Ex.exit 0,[(0,slA 5 l z,none),(1,AV.slcT none (Row.M [Seg.arr .i64 b k]) 1 k false,none),(5,AV.int .i64 j,none),(19,AV.bool false,some 1)],lvE::H))) [(0,slA 5 l z,none),(1,AV.slcT none (Row.M [Seg.arr .i64 b k]) 1 k false,none),(5,AV.int .i64 (addI .i64 j (Int.ofNat 1)),none)]:=by kernel_rfl
theorem t34b (n l k:Nat) (z b:Nat→Int) (H:Heap) (j:Int):execT (cxD (n+1) 34 100) (il noCt n 1) noBT noRT (part Tryz.f34 [1,1,1,0,1,0,0]) (hints (fr34 l k z b 6 j)) (lvE::H) =
 Tr.ite (ltI j (Int.ofNat k)) (Tr.req (inI j k) (Tr.req (ltN (idO 0 j 1) k) (Tr.req (inI (b (idO 0 j 1)) l) (Tr.req (ltN (idO 0 (b (idO 0 j 1)) 5) (mulO l 5)) (Tr.req (ltN (addO (idO 0 (b (idO 0 j 1)) 5) 1) (mulO l 5)) (Tr.req (ltN (addO (idO 0 (b (idO 0 j 1)) 5) 2) (mulO l 5)) (Tr.req (ltN (addO (idO 0 (b (idO 0 j 1)) 5) 3) (mulO l 5)) (Tr.req (ltN (addO (idO 0 (b (idO 0 j 1)) 5) 4) (mulO l 5)) (Tr.req (inI j k) (Tr.req (ltN (idO 0 j 1) k) (Tr.req (inI (b (idO 0 j 1)) l) (Tr.req (ltN (idO 0 (b (idO 0 j 1)) 5) (mulO l 5)) (Tr.req (ltN (addO (idO 0 (b (idO 0 j 1)) 5) 1) (mulO l 5)) (Tr.req (ltN (addO (idO 0 (b (idO 0 j 1)) 5) 2) (mulO l 5)) (Tr.req (ltN (addO (idO 0 (b (idO 0 j 1)) 5) 3) (mulO l 5)) (Tr.req (ltN (addO (idO 0 (b (idO 0 j 1)) 5) 4) (mulO l 5)) (Tr.ite (ltI (subI .i64 (z (idO 0 (b (idO 0 j 1)) 5)) (z (addO (idO 0 (b (idO 0 j 1)) 5) 2))) (subI .i64 (z (addO (idO 0 (b (idO 0 j 1)) 5) 1)) (z (addO (idO 0 (b (idO 0 j 1)) 5) 3)))) (Tr.ok (Ex.ret,[(4,AV.int .i64 (Int.ofNat 22),some 1)],lvE::H)) (Tr.ok (Ex.normal,[(0,slA 5 l z,none),(1,AV.slcT none (Row.M [Seg.arr .i64 b k]) 1 k false,none),(6,AV.int .i64 (addI .i64 j (Int.ofNat 1)),none)],lvE::H))))))))))))))))))) (Tr.ok (Ex.exit 2,[(0,slA 5 l z,none),(1,AV.slcT none (Row.M [Seg.arr .i64 b k]) 1 k false,none),(6,AV.int .i64 j,none),(48,AV.bool false,some 1)],lvE::H)):=by kernel_rfl
theorem t34c (n l k:Nat) (z b:Nat→Int) (H:Heap) (i:Int) (e:Bool) (q1 q2:Nat×Blk):execT (cxD n 34 100) (il noCt n 0) (blkE noBT 6 (fr34d l k z b i 0) (lvE::H) (.ite e (.ok (.ret,[(4,.int .i64 14,none)],⟨false,[q1,q2]⟩::H)) (.ok (.normal,hints (fr34d l k z b i i++[(74,.bool false)]),lvE::H)))) noRT (part Tryz.f34 [1,1,1,1,0,1,0,0]) (hints (fr34 l k z b 7 i)) (lvE::H) =
 (fun (Z0:Frm)=>Tr.ite (ltI i (Int.ofNat k)) (Tr.reqP (Z0=Z0∧lvE::H=lvE::H) (Tr.ite e (Tr.ok (Ex.ret,[(4,AV.int .i64 (Int.ofNat 14),none)],{ lock:=false,bs:=[q1,q2] } :: H)) (Tr.ok (Ex.normal,[(0,slA 5 l z,none),(1,AV.slcT none (Row.M [Seg.arr .i64 b k]) 1 k false,none),(7,AV.int .i64 (addI .i64 i (Int.ofNat 1)),none)],lvE::H)))) (Tr.ok (Ex.exit 4,[(0,slA 5 l z,none),(1,AV.slcT none (Row.M [Seg.arr .i64 b k]) 1 k false,none),(7,AV.int .i64 i,none),(69,AV.bool false,some 1)],lvE::H))) [(0,slA 5 l z),(1,AV.slcT none (Row.M [Seg.arr .i64 b k]) 1 k false),(7,AV.int .i64 i),(8,AV.int .i64 (Int.ofNat 0))]:=by kernel_rfl
theorem t34x (n l k:Nat) (z b:Nat→Int) (H:Heap) (i:Int):execT (cxD n 34 100) (il noCt n 0) (stopB noBT 6) noRT (part Tryz.f34 [1,1,1,1,0,1,0,0]) (hints (fr34 l k z b 7 i)) (lvE::H) =
 Tr.ite (ltI i (Int.ofNat k)) Tr.bad (Tr.ok (Ex.exit 4,[(0,slA 5 l z,none),(1,AV.slcT none (Row.M [Seg.arr .i64 b k]) 1 k false,none),(7,AV.int .i64 i,none),(69,AV.bool false,some 1)],lvE::H)):=by kernel_rfl
theorem t34d (n l k:Nat) (z b:Nat→Int) (H:Heap) (i j:Int):execT (cxD (n+1) 34 100) (il noCt n 1) noBT noRT (part Tryz.f34 [1,1,1,1,0,1,0,0,1,0,0,1,0,0]) (hints (fr34d l k z b i j)) (lvE::H) =
 (fun (Z0:Lvl)=>Tr.ite (ltI j i) (Tr.req (inI i k) (Tr.req (ltN (idO 0 i 1) k) (Tr.req (inI (b (idO 0 i 1)) l) (Tr.req (ltN (idO 0 (b (idO 0 i 1)) 5) (mulO l 5)) (Tr.req (ltN (addO (idO 0 (b (idO 0 i 1)) 5) 1) (mulO l 5)) (Tr.req (ltN (addO (idO 0 (b (idO 0 i 1)) 5) 2) (mulO l 5)) (Tr.req (ltN (addO (idO 0 (b (idO 0 i 1)) 5) 3) (mulO l 5)) (Tr.req (ltN (addO (idO 0 (b (idO 0 i 1)) 5) 4) (mulO l 5)) (Tr.req (inI j k) (Tr.req (ltN (idO 0 j 1) k) (Tr.req (inI (b (idO 0 j 1)) l) (Tr.req (ltN (idO 0 (b (idO 0 j 1)) 5) (mulO l 5)) (Tr.req (ltN (addO (idO 0 (b (idO 0 j 1)) 5) 1) (mulO l 5)) (Tr.req (ltN (addO (idO 0 (b (idO 0 j 1)) 5) 2) (mulO l 5)) (Tr.req (ltN (addO (idO 0 (b (idO 0 j 1)) 5) 3) (mulO l 5)) (Tr.req (ltN (addO (idO 0 (b (idO 0 j 1)) 5) 4) (mulO l 5)) (Tr.req (andB (leN 0 0) (leN 0 1)) (Tr.req (andB (leN 0 0) (leN 0 1)) (Tr.ite (leI (maxO (subI .i64 (z (addO (idO 0 (b (idO 0 i 1)) 5) 1)) (z (addO (idO 0 (b (idO 0 i 1)) 5) 3))) (subI .i64 (z (addO (idO 0 (b (idO 0 j 1)) 5) 1)) (z (addO (idO 0 (b (idO 0 j 1)) 5) 3)))) (minO (subI .i64 (z (idO 0 (b (idO 0 i 1)) 5)) (z (addO (idO 0 (b (idO 0 i 1)) 5) 2))) (subI .i64 (z (idO 0 (b (idO 0 j 1)) 5)) (z (addO (idO 0 (b (idO 0 j 1)) 5) 2))))) (Tr.ok (Ex.ret,[(4,AV.int .i64 (Int.ofNat 14),some 1)],Z0::H)) (Tr.ok (Ex.normal,[(0,slA 5 l z,none),(1,AV.slcT none (Row.M [Seg.arr .i64 b k]) 1 k false,none),(7,AV.int .i64 i,none),(8,AV.int .i64 (addI .i64 j (Int.ofNat 1)),none)],Z0::H))))))))))))))))))))) (Tr.ok (Ex.exit 6,[(0,slA 5 l z,none),(1,AV.slcT none (Row.M [Seg.arr .i64 b k]) 1 k false,none),(7,AV.int .i64 i,none),(8,AV.int .i64 j,none),(74,AV.bool false,some 1)],lvE::H))) { lock:=false,bs:=[(0,Blk.row (Row.I .i64 [subI .i64 (z (addO (idO 0 (b (idO 0 i 1)) 5) 1)) (z (addO (idO 0 (b (idO 0 i 1)) 5) 3)),subI .i64 (z (idO 0 (b (idO 0 i 1)) 5)) (z (addO (idO 0 (b (idO 0 i 1)) 5) 2))])),(0,Blk.row (Row.I .i64 [subI .i64 (z (addO (idO 0 (b (idO 0 j 1)) 5) 1)) (z (addO (idO 0 (b (idO 0 j 1)) 5) 3)),subI .i64 (z (idO 0 (b (idO 0 j 1)) 5)) (z (addO (idO 0 (b (idO 0 j 1)) 5) 2))]))] }:=by kernel_rfl
theorem u34 (n l k:Nat) (z b:Nat→Int) (H:Heap) (e1 e2 e3:Bool) (q1 q2:Nat×Blk):bodyT Tryz.prog (cd n) 100000 34 Tryz.f34 (KtB.kt 34) (il (tX noCt 21 [slA 5 l z] (.int .i64 0)) n 0) (bl34 l k z b H e1 e2 e3 q1 q2) noRT [(slA 5 l z,none),(sl1 k b false,none)] H =
 (fun (Z0:Nat×AV)=>Tr.reqP ([slA 5 l z]=[slA 5 l z]) (Tr.ite (notB (eqI (Int.ofNat 0) (Int.ofNat 0))) (Tr.reqP ([slA 5 l z]=[slA 5 l z]) (Tr.ok ((AV.int .i64 (Int.ofNat 0),none),H))) (Tr.reqP ([(0,slA 5 l z),Z0,(5,AV.int .i64 (Int.ofNat 0))]=[(0,slA 5 l z),Z0,(5,AV.int .i64 (Int.ofNat 0))]∧lvE::H=lvE::H) (Tr.ite e1 (Tr.ok ((AV.int .i64 (Int.ofNat 3),none),H)) (Tr.reqP ([(0,slA 5 l z),Z0,(6,AV.int .i64 (Int.ofNat 0))]=[(0,slA 5 l z),Z0,(6,AV.int .i64 (Int.ofNat 0))]∧lvE::H=lvE::H) (Tr.ite e2 (Tr.ok ((AV.int .i64 (Int.ofNat 22),none),H)) (Tr.reqP ([(0,slA 5 l z),Z0,(7,AV.int .i64 (Int.ofNat 0))]=[(0,slA 5 l z),Z0,(7,AV.int .i64 (Int.ofNat 0))]∧lvE::H=lvE::H) (Tr.ite e3 (Tr.ok ((AV.int .i64 (Int.ofNat 14),none),H)) (Tr.ok ((AV.int .i64 (Int.ofNat 0),some 1),H)))))))))) (1,AV.slcT none (Row.M [Seg.arr .i64 b k]) 1 k false):=by kernel_rfl
theorem u34a (n l k:Nat) (z b:Nat→Int) (H:Heap):bodyT Tryz.prog (cd n) 100000 34 Tryz.f34 (KtB.kt 34) (il (tX noCt 21 [slA 5 l z] (.int .i64 0)) n 0) (blkE (stopB (stopB noBT 4) 2) 0 (fr34 l k z b 5 0) (lvE::H) (.ok (.ret,[(4,.int .i64 3,none)],lvE::H))) noRT [(slA 5 l z,none),(sl1 k b false,none)] H =
 (fun (Z0:Frm)=>Tr.reqP ([slA 5 l z]=[slA 5 l z]) (Tr.ite (notB (eqI (Int.ofNat 0) (Int.ofNat 0))) (Tr.reqP ([slA 5 l z]=[slA 5 l z]) (Tr.ok ((AV.int .i64 (Int.ofNat 0),none),H))) (Tr.reqP (Z0=Z0∧lvE::H=lvE::H) (Tr.ok ((AV.int .i64 (Int.ofNat 3),none),H))))) [(0,slA 5 l z),(1,AV.slcT none (Row.M [Seg.arr .i64 b k]) 1 k false),(5,AV.int .i64 (Int.ofNat 0))]:=by kernel_rfl
theorem u34x (n l k:Nat) (z b:Nat→Int) (H:Heap) (e:Int):bodyT Tryz.prog (cd n) 100000 34 Tryz.f34 (KtB.kt 34) (il (tX noCt 21 [slA 5 l z] (.int .i64 e)) n 0) (stopB noBT 0) noRT [(slA 5 l z,none),(sl1 k b false,none)] H =
 Tr.reqP ([slA 5 l z]=[slA 5 l z]) (Tr.ite (notB (eqI e (Int.ofNat 0))) (Tr.reqP ([slA 5 l z]=[slA 5 l z]) (Tr.ok ((AV.int .i64 e,none),H))) Tr.bad):=by kernel_rfl
theorem b34a:∀ b,(0,b) ∈ blocksOf (bodyOf Tryz.f34)→b=.loop (part Tryz.f34 [1,1,0,1,0,0]):=by
 have:((blocksOf (bodyOf Tryz.f34)).filter fun x=>Nat.beq x.1 0)=[(0,.loop (part Tryz.f34 [1,1,0,1,0,0]))]:=by kernel_rfl
 intro b hb
 have hm:(0,b) ∈ ((blocksOf (bodyOf Tryz.f34)).filter fun x=>Nat.beq x.1 0):=List.mem_filter.2 ⟨hb,rfl⟩
 rw[this] at hm;simpa using hm
theorem b34b:∀ b,(2,b) ∈ blocksOf (bodyOf Tryz.f34)→b=.loop (part Tryz.f34 [1,1,1,0,1,0,0]):=by
 have:((blocksOf (bodyOf Tryz.f34)).filter fun x=>Nat.beq x.1 2)=[(2,.loop (part Tryz.f34 [1,1,1,0,1,0,0]))]:=by kernel_rfl
 intro b hb
 have hm:(2,b) ∈ ((blocksOf (bodyOf Tryz.f34)).filter fun x=>Nat.beq x.1 2):=List.mem_filter.2 ⟨hb,rfl⟩
 rw[this] at hm;simpa using hm
theorem b34c:∀ b,(4,b) ∈ blocksOf (bodyOf Tryz.f34)→b=.loop (part Tryz.f34 [1,1,1,1,0,1,0,0]):=by
 have:((blocksOf (bodyOf Tryz.f34)).filter fun x=>Nat.beq x.1 4)=[(4,.loop (part Tryz.f34 [1,1,1,1,0,1,0,0]))]:=by kernel_rfl
 intro b hb
 have hm:(4,b) ∈ ((blocksOf (bodyOf Tryz.f34)).filter fun x=>Nat.beq x.1 4):=List.mem_filter.2 ⟨hb,rfl⟩
 rw[this] at hm;simpa using hm
theorem b34d:∀ b,(6,b) ∈ blocksOf (part Tryz.f34 [1,1,1,1,0,1,0,0])→b=.loop (part Tryz.f34 [1,1,1,1,0,1,0,0,1,0,0,1,0,0]):=by
 have:((blocksOf (part Tryz.f34 [1,1,1,1,0,1,0,0])).filter fun x=>Nat.beq x.1 6)=[(6,.loop (part Tryz.f34 [1,1,1,1,0,1,0,0,1,0,0,1,0,0]))]:=by kernel_rfl
 intro b hb
 have hm:(6,b) ∈ ((blocksOf (part Tryz.f34 [1,1,1,1,0,1,0,0])).filter fun x=>Nat.beq x.1 6):=List.mem_filter.2 ⟨hb,rfl⟩
 rw[this] at hm;simpa using hm
theorem exN_first {p q:Nat→Bool} {k:Nat} (h:∀ j,(∀ i,i<j→q i=false)→p j=q j):exN p k=exN q k:=by
 have key2:∀ j,(∀ i,i<j→q i=false)∨(∃ i,i<j∧q i=true∧∀ x,x<i→q x=false):=by
  intro j
  induction j with
  | zero=>exact .inl (fun i hi=>by omega)
  | succ j ih =>
    rcases ih with h | ⟨i,h1,h2⟩
    · cases e:q j with
      | true=>exact .inr ⟨j,by omega,e,h⟩
      | false =>
        refine .inl (fun i hi=>?_)
        by_cases x:i<j
        · exact h i x
        · have:i=j:=by omega
          subst this;exact e
    · exact .inr ⟨i,by omega,h2⟩
 rw[Bool.eq_iff_iff,exN_iff,exN_iff]
 rcases key2 k with h' | ⟨i,h1,h2,h3⟩
 · constructor
   · rintro ⟨j,hj,e⟩
     exact ⟨j,hj,by rw[← h j (fun i hi=>h' i (by omega))];exact e⟩
   · rintro ⟨j,hj,e⟩
     exact ⟨j,hj,by rw[h j (fun i hi=>h' i (by omega))];exact e⟩
 · exact ⟨fun _=>⟨i,h1,h2⟩,fun _=>⟨i,h1,by rw[h i h3];exact h2⟩⟩
def od34 (l:Nat) (b:Nat→Int) (j:Nat):Bool:=!(decide (0≤b j) && decide (b j<l)) || (decide (0<j) && decide (b j≤b (j-1)))
def noA (z b:Nat→Int) (j:Nat):Bool:=decide (bHi z (b j).toNat<bLo z (b j).toNat)
def mtB (z:Nat→Int) (x y:Int):Bool:=decide (max (bLo z x.toNat) (bLo z y.toNat)≤min (bHi z x.toNat) (bHi z y.toNat))
def mtA (z b:Nat→Int) (i:Nat):Bool:=exN (fun j=>mtB z (b i) (b j)) i
def caE (l:Nat) (z:Nat→Int) (k:Nat) (b:Nat→Int):Int:=if chkO l z≠0 then chkO l z else if exN (od34 l b) k=true then 3 else if exN (noA z b) k=true then 22 else if exN (mtA z b) k=true then 14 else 0
theorem od_ok {l k:Nat} {b:Nat→Int} (h:exN (od34 l b) k=false):∀ j,j<k→0≤b j∧b j<l:=fun j hj=>by
 have:od34 l b j=false:=by
  cases e:od34 l b j with
  | false=>rfl
  | true=>rw[(exN_iff _ _).2 ⟨j,hj,e⟩] at h;cases h
 simp only[od34,Bool.or_eq_false_iff,Bool.not_eq_false',Bool.and_eq_true,decide_eq_true_eq] at this
 exact this.1
section
variable (n l k:Nat) (z b:Nat→Int) (H:Heap)
theorem l34a (hk:k≤1000):exec (cxD (n+1) 34 100) (.block 0 (.loop (part Tryz.f34 [1,1,0,1,0,0]))) (fr34 l k z b 5 0) (lvE::H)=some (cond (exN (od34 l b) k) (.ret,[(4,.int .i64 3)],lvE::H) (.normal,fr34 l k z b 5 (Int.ofNat k)++[(19,.bool false)],lvE::H)):=by
 refine findX 0 (fun j=>fr34 l k z b 5 (j:Int)) (fun _=>lvE::H) k (od34 l b) (fun j=>([(4,.int .i64 3)],lvE::H)) (fr34 l k z b 5 (Int.ofNat k)++[(19,.bool false)],lvE::H) (by omega) (fun j hj=>?_) ?_
 · have hp:od34 l b j=(!(decide (0≤b j) && decide (b j<l)) || (decide (0<j) && decide (b j≤b (j-1)))):=rfl
   have e1:0<j→idO 0 (subI .i64 (j:Int) (Int.ofNat 1)) 1=j-1:=fun h=>by
    have:subI .i64 (j:Int) (Int.ofNat 1)=((j-1:Nat):Int):=by rw[subI_eq,show Int.ofNat 1=1 from rfl,wr_64 (by omega) (by omega)];omega
    rw[this,id1]
   refine ex_all (t34a n l k z b H (j:Int)) (il_no n 1) (noBT_ok _ _) (noRT_ok _ _) ?_
   show Tr.all _ (fun x=>if od34 l b j=true then _ else _)
   rw[cs64 (by omega),id1]
   by_cases h1:0≤b j∧b j<l
   · by_cases h0:0<j
     · rw [e1 h0]
       generalize b (j-1)=y at *
       by_cases h3:b j≤y
       · have hp:od34 l b j=true:=by rw[hp];simp[h3,h0]
         rw[hp]
         simp only[if_true]
         repeat' first | (refine Tr.all_ite (fun hc=>?_) (fun hc=>?_)<;>(try simp (disch:=omega) only[nV,nW] at hc)<;>try omega) | (refine Tr.all_req ?_ ?_;· (try simp (disch:=omega) only[nV,nW]);try omega) | (refine Tr.all_reqP ?_ ?_;· first | exact trivial | rfl | exact ⟨rfl,rfl⟩ | exact ⟨rfl,rfl,rfl⟩ | (simp (disch:=omega) only[nV,nW];done) | ((try simp (disch:=omega) only[nV,nW]);omega)) | fail
         all_goals first
          | exact Tr.all_ok rfl
          | fail
       · have hp:od34 l b j=false:=by rw[hp];simp[h1.1,h1.2,h3]
         rw[hp]
         simp only[Bool.false_eq_true,if_false]
         repeat' first | (refine Tr.all_ite (fun hc=>?_) (fun hc=>?_)<;>(try simp (disch:=omega) only[nV,nW] at hc)<;>try omega) | (refine Tr.all_req ?_ ?_;· (try simp (disch:=omega) only[nV,nW]);try omega) | (refine Tr.all_reqP ?_ ?_;· first | exact trivial | rfl | exact ⟨rfl,rfl⟩ | exact ⟨rfl,rfl,rfl⟩ | (simp (disch:=omega) only[nV,nW];done) | ((try simp (disch:=omega) only[nV,nW]);omega)) | fail
         all_goals first
          | exact Tr.all_ok ⟨rfl,rfl⟩
          | fail
     · have hp:od34 l b j=false:=by rw[hp];simp[h1.1,h1.2,h0]
       rw[hp]
       simp only[Bool.false_eq_true,if_false]
       repeat' first | (refine Tr.all_ite (fun hc=>?_) (fun hc=>?_)<;>(try simp (disch:=omega) only[nV,nW] at hc)<;>try omega) | (refine Tr.all_req ?_ ?_;· (try simp (disch:=omega) only[nV,nW]);try omega) | (refine Tr.all_reqP ?_ ?_;· first | exact trivial | rfl | exact ⟨rfl,rfl⟩ | exact ⟨rfl,rfl,rfl⟩ | (simp (disch:=omega) only[nV,nW];done) | ((try simp (disch:=omega) only[nV,nW]);omega)) | fail
       all_goals first
        | exact Tr.all_ok ⟨rfl,rfl⟩
        | fail
   · have hp:od34 l b j=true:=by rw[hp];simp;omega
     rw[hp]
     simp only[if_true]
     repeat' first | (refine Tr.all_ite (fun hc=>?_) (fun hc=>?_)<;>(try simp (disch:=omega) only[nV,nW] at hc)<;>try omega) | (refine Tr.all_req ?_ ?_;· (try simp (disch:=omega) only[nV,nW]);try omega) | (refine Tr.all_reqP ?_ ?_;· first | exact trivial | rfl | exact ⟨rfl,rfl⟩ | exact ⟨rfl,rfl,rfl⟩ | (simp (disch:=omega) only[nV,nW];done) | ((try simp (disch:=omega) only[nV,nW]);omega)) | fail
     all_goals first
      | exact Tr.all_ok rfl
      | fail
 · obtain ⟨x,h1,rfl⟩:=ex_all (Q:=fun x=>x=(.exit 0,fr34 l k z b 5 (Int.ofNat k)++[(19,.bool false)],lvE::H)) (t34a n l k z b H (Int.ofNat k)) (il_no n 1) (noBT_ok _ _) (noRT_ok _ _) (by
    refine Tr.all_ite (fun hc=>?_) (fun hc=>Tr.all_ok rfl)
    simp (disch:=omega) only[nV,nW] at hc;omega)
   exact h1
theorem l34b (h:chkO l z=0) (hk:k≤1000) (hb:∀ j,j<k→0≤b j∧b j<l):exec (cxD (n+1) 34 100) (.block 2 (.loop (part Tryz.f34 [1,1,1,0,1,0,0]))) (fr34 l k z b 6 0) (lvE::H)=some (cond (exN (noA z b) k) (.ret,[(4,.int .i64 22)],lvE::H) (.normal,fr34 l k z b 6 (Int.ofNat k)++[(48,.bool false)],lvE::H)):=by
 obtain ⟨hl,hz⟩:=chk_odd h
 refine findX 2 (fun j=>fr34 l k z b 6 (j:Int)) (fun _=>lvE::H) k (noA z b) (fun j=>([(4,.int .i64 22)],lvE::H)) (fr34 l k z b 6 (Int.ofNat k)++[(48,.bool false)],lvE::H) (by omega) (fun j hj=>?_) ?_
 · have hp:noA z b j=decide (bHi z (b j).toNat<bLo z (b j).toNat):=rfl
   have hbj:=hb j hj
   refine ex_all (t34b n l k z b H (j:Int)) (il_no n 1) (noBT_ok _ _) (noRT_ok _ _) ?_
   show Tr.all _ (fun x=>if noA z b j=true then _ else _)
   rw[cs64 (by omega),id1]
   generalize b j=q at *
   generalize noA z b j=nb at *
   obtain ⟨i,rfl⟩:∃ i:Nat,q=i:=⟨q.toNat,by omega⟩
   have bz:=hz i (by omega)
   rw[Int.toNat_natCast] at hp
   have e5:idO 0 (i:Int) 5=i*5:=by rw[idO_eq];omega
   have s1:subI .i64 (z (i*5+1)) (z (i*5+3))=bLo z i:=by rw[subI_eq];exact wr_64 (by omega) (by omega)
   have s2:subI .i64 (z (i*5)) (z (i*5+2))=bHi z i:=by rw[subI_eq];exact wr_64 (by omega) (by omega)
   simp only[addO_eq]
   rw[e5,s1,s2]
   generalize bLo z i=lo at *
   generalize bHi z i=hi at *
   by_cases h1:hi<lo
   · rw[decide_eq_true h1] at hp
     subst hp
     simp only[if_true]
     repeat' first | (refine Tr.all_ite (fun hc=>?_) (fun hc=>?_)<;>(try simp (disch:=omega) only[nV,nW] at hc)<;>try omega) | (refine Tr.all_req ?_ ?_;· (try simp (disch:=omega) only[nV,nW]);try omega) | (refine Tr.all_reqP ?_ ?_;· first | exact trivial | rfl | exact ⟨rfl,rfl⟩ | exact ⟨rfl,rfl,rfl⟩ | (simp (disch:=omega) only[nV,nW];done) | ((try simp (disch:=omega) only[nV,nW]);omega)) | fail
     all_goals first
      | exact Tr.all_ok rfl
      | fail
   · rw[decide_eq_false h1] at hp
     subst hp
     simp only[Bool.false_eq_true,if_false]
     repeat' first | (refine Tr.all_ite (fun hc=>?_) (fun hc=>?_)<;>(try simp (disch:=omega) only[nV,nW] at hc)<;>try omega) | (refine Tr.all_req ?_ ?_;· (try simp (disch:=omega) only[nV,nW]);try omega) | (refine Tr.all_reqP ?_ ?_;· first | exact trivial | rfl | exact ⟨rfl,rfl⟩ | exact ⟨rfl,rfl,rfl⟩ | (simp (disch:=omega) only[nV,nW];done) | ((try simp (disch:=omega) only[nV,nW]);omega)) | fail
     all_goals first
      | exact Tr.all_ok ⟨rfl,rfl⟩
      | fail
 · obtain ⟨x,h1,rfl⟩:=ex_all (Q:=fun x=>x=(.exit 2,fr34 l k z b 6 (Int.ofNat k)++[(48,.bool false)],lvE::H)) (t34b n l k z b H (Int.ofNat k)) (il_no n 1) (noBT_ok _ _) (noRT_ok _ _) (by
    refine Tr.all_ite (fun hc=>?_) (fun hc=>Tr.all_ok rfl)
    simp (disch:=omega) only[nV,nW] at hc;omega)
   exact h1
noncomputable def rg34 (z:Nat→Int) (x:Int):Nat×Blk:=(0,.row (.I .i64 [bLo z x.toNat,bHi z x.toNat]))
theorem l34d (h:chkO l z=0) (hk:k≤1000) (hb:∀ j,j<k→0≤b j∧b j<l) (i:Nat) (hi:i<k):exec (cxD (n+1) 34 100) (.block 6 (.loop (part Tryz.f34 [1,1,1,1,0,1,0,0,1,0,0,1,0,0]))) (fr34d l k z b i 0) (lvE::H)=some (cond (mtA z b i) (.ret,[(4,.int .i64 14)],(⟨false,[rg34 z (b i),rg34 z (b (fN (fun j=>mtB z (b i) (b j)) i 0))]⟩:Lvl)::H) (.normal,fr34d l k z b i i++[(74,.bool false)],lvE::H)):=by
 obtain ⟨hl,hz⟩:=chk_odd h
 refine findX 6 (fun j=>fr34d l k z b i (j:Int)) (fun _=>lvE::H) i (fun j=>mtB z (b i) (b j)) (fun j=>([(4,.int .i64 14)],(⟨false,[rg34 z (b i),rg34 z (b j)]⟩:Lvl)::H)) (fr34d l k z b i i++[(74,.bool false)],lvE::H) (by omega) (fun j hj=>?_) ?_
 · have hbi:=hb i hi
   have hbj:=hb j (by omega)
   have hp:mtB z (b i) (b j)=decide (max (bLo z (b i).toNat) (bLo z (b j).toNat)≤min (bHi z (b i).toNat) (bHi z (b j).toNat)):=rfl
   refine ex_all (t34d n l k z b H i (j:Int)) (il_no n 1) (noBT_ok _ _) (noRT_ok _ _) ?_
   show Tr.all _ (fun x=>if mtB z (b i) (b j)=true then _ else _)
   rw[cs64 (by omega),id1,id1]
   generalize b i=q at *
   generalize b j=r at *
   generalize mtB z q r=mb at *
   obtain ⟨x,rfl⟩:∃ x:Nat,q=x:=⟨q.toNat,by omega⟩
   obtain ⟨y,rfl⟩:∃ y:Nat,r=y:=⟨r.toNat,by omega⟩
   have bx:=hz x (by omega)
   have by':=hz y (by omega)
   unfold rg34
   rw[Int.toNat_natCast,Int.toNat_natCast] at *
   have e5:idO 0 (x:Int) 5=x*5:=by rw[idO_eq];omega
   have f5:idO 0 (y:Int) 5=y*5:=by rw[idO_eq];omega
   have s1:subI .i64 (z (x*5+1)) (z (x*5+3))=bLo z x:=by rw[subI_eq];exact wr_64 (by omega) (by omega)
   have s2:subI .i64 (z (x*5)) (z (x*5+2))=bHi z x:=by rw[subI_eq];exact wr_64 (by omega) (by omega)
   have s3:subI .i64 (z (y*5+1)) (z (y*5+3))=bLo z y:=by rw[subI_eq];exact wr_64 (by omega) (by omega)
   have s4:subI .i64 (z (y*5)) (z (y*5+2))=bHi z y:=by rw[subI_eq];exact wr_64 (by omega) (by omega)
   simp only[addO_eq]
   rw[e5,f5,s1,s2,s3,s4]
   generalize bLo z x=lo at *
   generalize bHi z x=hi at *
   generalize bLo z y=lo2 at *
   generalize bHi z y=hi2 at *
   by_cases h1:max lo lo2≤min hi hi2
   · rw[decide_eq_true h1] at hp
     subst hp
     simp only[if_true]
     repeat' first | (refine Tr.all_ite (fun hc=>?_) (fun hc=>?_)<;>(try simp (disch:=omega) only[nV,nW] at hc)<;>try omega) | (refine Tr.all_req ?_ ?_;· (try simp (disch:=omega) only[nV,nW]);try omega) | (refine Tr.all_reqP ?_ ?_;· first | exact trivial | rfl | exact ⟨rfl,rfl⟩ | exact ⟨rfl,rfl,rfl⟩ | (simp (disch:=omega) only[nV,nW];done) | ((try simp (disch:=omega) only[nV,nW]);omega)) | fail
     all_goals first
      | exact Tr.all_ok rfl
      | fail
   · rw[decide_eq_false h1] at hp
     subst hp
     simp only[Bool.false_eq_true,if_false]
     repeat' first | (refine Tr.all_ite (fun hc=>?_) (fun hc=>?_)<;>(try simp (disch:=omega) only[nV,nW] at hc)<;>try omega) | (refine Tr.all_req ?_ ?_;· (try simp (disch:=omega) only[nV,nW]);try omega) | (refine Tr.all_reqP ?_ ?_;· first | exact trivial | rfl | exact ⟨rfl,rfl⟩ | exact ⟨rfl,rfl,rfl⟩ | (simp (disch:=omega) only[nV,nW];done) | ((try simp (disch:=omega) only[nV,nW]);omega)) | fail
     all_goals first
      | exact Tr.all_ok ⟨rfl,by kernel_rfl⟩
      | fail
 · obtain ⟨x,h1,rfl⟩:=ex_all (Q:=fun x=>x=(.exit 6,fr34d l k z b i i++[(74,.bool false)],lvE::H)) (t34d n l k z b H i i) (il_no n 1) (noBT_ok _ _) (noRT_ok _ _) (by
    refine Tr.all_ite (fun hc=>?_) (fun hc=>Tr.all_ok rfl)
    simp (disch:=omega) only[nV,nW] at hc;omega)
   exact h1
theorem l34c (h:chkO l z=0) (hk:k≤1000) (hb:∀ j,j<k→0≤b j∧b j<l):∃ q1 q2,exec (cxD (n+1) 34 100) (.block 4 (.loop (part Tryz.f34 [1,1,1,1,0,1,0,0]))) (fr34 l k z b 7 0) (lvE::H)=some (cond (exN (mtA z b) k) (.ret,[(4,.int .i64 14)],(⟨false,[q1,q2]⟩:Lvl)::H) (.normal,fr34 l k z b 7 (Int.ofNat k)++[(69,.bool false)],lvE::H)):=by
 have:=findX (n:=n+1) (f:=34) (nt:=100) (c:=part Tryz.f34 [1,1,1,1,0,1,0,0]) 4 (fun j=>fr34 l k z b 7 (j:Int)) (fun _=>lvE::H) k (mtA z b) (fun i=>([(4,.int .i64 14)],(⟨false,[rg34 z (b i),rg34 z (b (fN (fun j=>mtB z (b i) (b j)) i 0))]⟩:Lvl)::H)) (fr34 l k z b 7 (Int.ofNat k)++[(69,.bool false)],lvE::H) (by omega) (fun i hi=>?_) ?_
 · exact ⟨_,_,this⟩
 · have hx:=l34d n l k z b H h hk hb i hi
   refine ex_all (t34c (n+1) l k z b H i (mtA z b i) (rg34 z (b i)) (rg34 z (b (fN (fun j=>mtB z (b i) (b j)) i 0)))) (il_no0 _) (blkE_ok (noBT_ok _ _) b34d (fun x hy=>blk_ite hy hx)) (noRT_ok _ _) ?_
   rw[cs64 (by omega)]
   cases hm:mtA z b i with
   | true =>
     simp only[if_true]
     repeat' first | (refine Tr.all_ite (fun hc=>?_) (fun hc=>?_)<;>(try simp (disch:=omega) only[nV,nW] at hc)<;>try omega) | (refine Tr.all_req ?_ ?_;· (try simp (disch:=omega) only[nV,nW]);try omega) | (refine Tr.all_reqP ?_ ?_;· first | exact trivial | rfl | exact ⟨rfl,rfl⟩ | exact ⟨rfl,rfl,rfl⟩ | (simp (disch:=omega) only[nV,nW];done) | ((try simp (disch:=omega) only[nV,nW]);omega)) | fail
     all_goals first
      | exact Tr.all_ok rfl
      | fail
   | false =>
     simp only[Bool.false_eq_true,if_false]
     repeat' first | (refine Tr.all_ite (fun hc=>?_) (fun hc=>?_)<;>(try simp (disch:=omega) only[nV,nW] at hc)<;>try omega) | (refine Tr.all_req ?_ ?_;· (try simp (disch:=omega) only[nV,nW]);try omega) | (refine Tr.all_reqP ?_ ?_;· first | exact trivial | rfl | exact ⟨rfl,rfl⟩ | exact ⟨rfl,rfl,rfl⟩ | (simp (disch:=omega) only[nV,nW];done) | ((try simp (disch:=omega) only[nV,nW]);omega)) | fail
     all_goals first
      | exact Tr.all_ok ⟨rfl,rfl⟩
      | fail
 · obtain ⟨x,h1,rfl⟩:=ex_all (Q:=fun x=>x=(.exit 4,fr34 l k z b 7 (Int.ofNat k)++[(69,.bool false)],lvE::H)) (t34x (n+1) l k z b H (Int.ofNat k)) (il_no0 _) (stopB_ok (noBT_ok _ _) 6) (noRT_ok _ _) (by
    repeat' first | (refine Tr.all_ite (fun hc=>?_) (fun hc=>?_)<;>(try simp (disch:=omega) only[nV,nW] at hc)<;>try omega) | (refine Tr.all_req ?_ ?_;· (try simp (disch:=omega) only[nV,nW]);try omega) | (refine Tr.all_reqP ?_ ?_;· first | exact trivial | rfl | exact ⟨rfl,rfl⟩ | exact ⟨rfl,rfl,rfl⟩ | (simp (disch:=omega) only[nV,nW];done) | ((try simp (disch:=omega) only[nV,nW]);omega)) | fail
    all_goals first
     | exact Tr.all_ok rfl
     | fail)
   exact h1
theorem c34 (hk:k≤1000):cd (n+4) (.fn 34) [slA 5 l z,sl1 k b false] H=some (.int .i64 (caE l z k b),H):=by
 have hc:∀ q H,cd (n+3+q) (.fn 21) [slA 5 l z] H=some (.int .i64 (chkO l z),H):=fun q H=>by rw[show n+3+q=n+q+3 by omega];exact c21 _ l z H
 unfold caE
 by_cases h:chkO l z=0
 · rw [if_neg (fun x=>x h)]
   rw[h] at hc
   have x1:=l34a (n+2) l k z b H hk
   cases e1:exN (od34 l b) k with
   | true =>
     rw[e1] at x1
     rw[if_pos rfl]
     refine fn_all (n:=n+3) Tryz.func34 rfl rfl rfl (u34a (n+3) l k z b H) (il_ok _ (n+3) 0 (fun q=>tX_ok (noCt_ok _) (hc q))) (blkE_ok (stopB_ok (stopB_ok (noBT_ok _ _) 4) 2) b34a (fun x hy=>by rw[← Tr.ok_some hy];simp only[Res.st,hints_eq];exact x1)) (noRT_ok _ _) ?_
     repeat' first | (refine Tr.all_ite (fun hc=>?_) (fun hc=>?_)<;>(try simp (disch:=omega) only[nV,nW] at hc)<;>try omega) | (refine Tr.all_req ?_ ?_;· (try simp (disch:=omega) only[nV,nW]);try omega) | (refine Tr.all_reqP ?_ ?_;· first | exact trivial | rfl | exact ⟨rfl,rfl⟩ | exact ⟨rfl,rfl,rfl⟩ | (simp (disch:=omega) only[nV,nW];done) | ((try simp (disch:=omega) only[nV,nW]);omega)) | fail
     all_goals first
      | exact Tr.all_ok ⟨rfl,rfl⟩
      | fail
   | false =>
     rw[if_neg (by decide)]
     have hb:=od_ok e1
     have x2:=l34b (n+2) l k z b H h hk hb
     obtain ⟨q1,q2,x3⟩:=l34c (n+2) l k z b H h hk hb
     refine fn_all (n:=n+3) Tryz.func34 rfl rfl rfl (u34 (n+3) l k z b H (exN (od34 l b) k) (exN (noA z b) k) (exN (mtA z b) k) q1 q2) (il_ok _ (n+3) 0 (fun q=>tX_ok (noCt_ok _) (hc q))) (blkE_ok (blkE_ok (blkE_ok (noBT_ok _ _) b34c (fun x hy=>blk_ite hy x3)) b34b (fun x hy=>blk_ite hy x2)) b34a (fun x hy=>blk_ite hy x1)) (noRT_ok _ _) ?_
     rw[e1]
     cases exN (noA z b) k<;>cases exN (mtA z b) k
     all_goals
      repeat' first | (refine Tr.all_ite (fun hc=>?_) (fun hc=>?_)<;>(try simp (disch:=omega) only[nV,nW] at hc)<;>try omega) | (refine Tr.all_req ?_ ?_;· (try simp (disch:=omega) only[nV,nW]);try omega) | (refine Tr.all_reqP ?_ ?_;· first | exact trivial | rfl | exact ⟨rfl,rfl⟩ | exact ⟨rfl,rfl,rfl⟩ | (simp (disch:=omega) only[nV,nW];done) | ((try simp (disch:=omega) only[nV,nW]);omega)) | fail
      all_goals first
       | exact Tr.all_ok ⟨rfl,rfl⟩
       | fail
 · rw[if_pos h]
   refine fn_all (n:=n+3) Tryz.func34 rfl rfl rfl (u34x (n+3) l k z b H (chkO l z)) (il_ok _ (n+3) 0 (fun q=>tX_ok (noCt_ok _) (hc q))) (stopB_ok (noBT_ok _ _) 0) (noRT_ok _ _) ?_
   repeat' first | (refine Tr.all_ite (fun hc=>?_) (fun hc=>?_)<;>(try simp (disch:=omega) only[nV,nW] at hc)<;>try omega) | (refine Tr.all_req ?_ ?_;· (try simp (disch:=omega) only[nV,nW]);try omega) | (refine Tr.all_reqP ?_ ?_;· first | exact trivial | rfl | exact ⟨rfl,rfl⟩ | exact ⟨rfl,rfl,rfl⟩ | (simp (disch:=omega) only[nV,nW];done) | ((try simp (disch:=omega) only[nV,nW]);omega)) | fail
   all_goals first
    | exact Tr.all_ok ⟨rfl,rfl⟩
    | fail
end
end Go.Eng
