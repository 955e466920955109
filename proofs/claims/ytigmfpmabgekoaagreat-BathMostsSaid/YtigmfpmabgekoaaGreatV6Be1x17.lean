/- Bath: births as baths; whether one of them does an order. -/
import Derived.Test.YtigmfpmabgekoaaGreatV6Ba3x25
import Derived.Test.YtigmfpmabgekoaaGreatV6EngArgx7
set_option linter.unusedVariables false
set_option linter.unusedSimpArgs false
set_option maxRecDepth 100000
section
namespace Go.Eng
open Go.Proofs
noncomputable def BT (k:Nat) (b:Nat→Int) (full:Bool) (j:Int):au:=[(0,cQ k b full),(3,.int .i64 j)]
theorem t38 (n k:Nat) (b:Nat→Int) (full:Bool) (H:aa) (j:Int):aP (bt n 38 41) (il aT n 0) a6 a7 (part Tryz.f38 [1,1,0,1,0,0]) (hints (BT k b full j)) (aH::H) =
 (fun (Z0:aK)=>Tr.ite (cP j (Int.ofNat k)) (Tr.req (dY j k) (Tr.req (bX (aD 0 j 1) k) (Tr.ite (cP (b (aD 0 j 1)) (Int.negSucc 9999)) (Tr.ok (Ex.ret,[(2,AV.int .i64 (Int.ofNat 3),some 1)],aH::H)) (Tr.req (dY j k) (Tr.req (bX (aD 0 j 1) k) (Tr.ite (cP (Int.ofNat 10000) (b (aD 0 j 1))) (Tr.ok (Ex.ret,[(2,AV.int .i64 (Int.ofNat 3),some 1)],aH::H)) (Tr.ite (cP (Int.ofNat 0) j) (Tr.req (dY j k) (Tr.req (bX (aD 0 j 1) k) (Tr.req (dY (cD .i64 j (Int.ofNat 1)) k) (Tr.req (bX (aD 0 (cD .i64 j (Int.ofNat 1)) 1) k) (Tr.ite (mK (b (aD 0 j 1)) (b (aD 0 (cD .i64 j (Int.ofNat 1)) 1))) (Tr.ok (Ex.ret,[(2,AV.int .i64 (Int.ofNat 3),some 1)],aH::H)) (Tr.ok (Ex.normal,Z0,aH::H))))))) (Tr.ok (Ex.normal,Z0,aH::H))))))))) (Tr.ok (Ex.exit 0,[(0,AV.slcT none (Row.M [aW.arr .i64 b k]) 1 k full,none),(3,AV.int .i64 j,none),(10,AV.bool false,some 1)],aH::H))) [(0,AV.slcT none (Row.M [aW.arr .i64 b k]) 1 k full,none),(3,AV.int .i64 (bk .i64 j (Int.ofNat 1)),none)]:=by kernel_rfl
theorem QM (n k:Nat) (b:Nat→Int) (full:Bool) (H:aa) (e:Bool):bK Tryz.prog (cd n) 100000 38 Tryz.f38 (KtB.kt 38) (il aT n 0) (eT a6 0 (BT k b full 0) (aH::H) (.ite e (.ok (.ret,hints [(2,.int .i64 3)],aH::H)) (.ok (.normal,hints (BT k b full (Int.ofNat k)++[(10,.bool false)]),aH::H)))) a7 [(cQ k b full,none)] H =
 (fun (Z0:au)=>Tr.ite (cP (Int.ofNat 14) (Int.ofNat k)) (Tr.ok ((AV.int .i64 (Int.ofNat 6),some 1),H)) (Tr.reqP (Z0=Z0∧aH::H=aH::H) (Tr.ite e (Tr.ok ((AV.int .i64 (Int.ofNat 3),none),H)) (Tr.ok ((AV.int .i64 (Int.ofNat 0),some 1),H))))) [(0,AV.slcT none (Row.M [aW.arr .i64 b k]) 1 k full),(3,AV.int .i64 (Int.ofNat 0))]:=by kernel_rfl
theorem NF (n k:Nat) (b:Nat→Int) (full:Bool) (H:aa):bK Tryz.prog (cd n) 100000 38 Tryz.f38 (KtB.kt 38) (il aT n 0) (mT a6 0) a7 [(cQ k b full,none)] H =
 Tr.ite (cP (Int.ofNat 14) (Int.ofNat k)) (Tr.ok ((AV.int .i64 (Int.ofNat 6),some 1),H)) Tr.bad:=by kernel_rfl
theorem Oj:∀ b,(0,b) ∈ aV (bQ Tryz.f38)→b=.loop (part Tryz.f38 [1,1,0,1,0,0]):=gM (by kernel_rfl)
theorem Fh {cx:Cx} {id:Nat} {B:Code} {fr:au} {H:aa} {e:Bool} {X Y x:fz} (h:(Tr.ite e (Tr.ok X) (Tr.ok Y)).run=some x) (hx:exec cx (.block id B) fr H=some (cond e X.st Y.st)):exec cx (.block id B) fr H=some x.st:=by
 rw[hx]
 rcases Tr.fK h with ⟨hc,h⟩ | ⟨hc,h⟩
 · rw[hc,← Tr.ab h];rfl
 · rw[hc,← Tr.ab h];rfl
theorem lx {j:Nat} (h:j<2 ^ 31):bk .i64 (j:Int) (Int.ofNat 1)=((j+1:Nat):Int):=by rw[dB,show Int.ofNat 1=1 from rfl];exact dv (by omega) (by omega)
theorem Dx (j:Nat):aD 0 (j:Int) 1=j:=by rw[bS];omega
theorem DU:Int.negSucc 9999=-10000:=rfl
def oL (b:Nat→Int) (j:Nat):Bool:=decide (b j < -10000) || (decide (10000<b j) || (decide (0<j) && decide (b j≤b (j-1))))
def JB (k:Nat) (b:Nat→Int):Int:=if 14<k then 6 else if lB (oL b) k=true then 3 else 0
section
variable (n k:Nat) (b:Nat→Int) (full:Bool) (H:aa)
theorem Oy:cd (n+1) (.fn 38) [cQ k b full] H=some (.int .i64 (JB k b),H):=by
 unfold JB
 by_cases hk:14<k
 · rw[if_pos hk]
   refine bw (n:=n) Tryz.func38 rfl rfl rfl (NF n k b full H) (aB _) (fP (af _ _) 0) (ag _ _) ?_
   exact wF
 rw[if_neg hk]
 have hx:=wW (n:=n) (f:=38) (nt:=41) (c:=part Tryz.f38 [1,1,0,1,0,0]) 0 (fun j=>BT k b full (j:Int)) (fun _=>aH::H) k (oL b) (fun j=>([(2,.int .i64 3)],aH::H)) (BT k b full (Int.ofNat k)++[(10,.bool false)],aH::H) (by omega) (fun j hj=>?_) ?_
 · refine bw (n:=n) Tryz.func38 rfl rfl rfl (QM n k b full H (lB (oL b) k)) (aB _) (bu (af _ _) Oj (fun x h=>Fh h hx)) (ag _ _) ?_
   cases lB (oL b) k with
   | true =>
     rw[if_pos rfl]
     exact wF
   | false =>
     rw[if_neg (by decide)]
     exact wF
 · have hp : oL b j=(decide (b j < -10000) || (decide (10000<b j) || (decide (0<j) && decide (b j≤b (j-1))))):=rfl
   refine az (t38 n k b full H (j:Int)) (aB n) (af _ _) (ag _ _) ?_
   show Tr.all _ (fun x=>if oL b j=true then _ else _)
   rw[lx (by omega),Dx,DU]
   have e1:0<j→aD 0 (cD .i64 (j:Int) (Int.ofNat 1)) 1=j-1:=fun h=>by
    have:cD .i64 (j:Int) (Int.ofNat 1)=((j-1:Nat):Int):=by rw[db,show Int.ofNat 1=1 from rfl,dv (by omega) (by omega)];omega
    rw[this,Dx]
   by_cases h0:0<j
   · rw[e1 h0]
     generalize b (j-1)=y at *
     by_cases h1:b j < -10000
     · have hp:oL b j=true:=by rw[hp];simp[h1]
       rw[hp]
       simp only[if_true]
       exact wF
     · by_cases h2:10000<b j
       · have hp:oL b j=true:=by rw[hp];simp[h2]
         rw[hp]
         simp only[if_true]
         exact wF
       · by_cases h3:b j≤y
         · have hp:oL b j=true:=by rw[hp];simp[h3,h0]
           rw[hp]
           simp only[if_true]
           exact wF
         · have hp:oL b j=false:=by rw[hp];simp only[decide_eq_false h1,decide_eq_false h2,decide_eq_false h3];simp
           rw[hp]
           simp only[Bool.false_eq_true,if_false]
           exact wF
   · by_cases h1:b j < -10000
     · have hp:oL b j=true:=by rw[hp];simp[h1]
       rw[hp]
       simp only[if_true]
       exact wF
     · by_cases h2:10000<b j
       · have hp:oL b j=true:=by rw[hp];simp[h2]
         rw[hp]
         simp only[if_true]
         exact wF
       · have hp:oL b j=false:=by rw[hp];simp only[decide_eq_false h1,decide_eq_false h2,decide_eq_false h0];simp
         rw[hp]
         simp only[Bool.false_eq_true,if_false]
         exact wF
 · obtain ⟨x,h1,rfl⟩:=az (Q:=fun x=>x=(.exit 0,BT k b full (Int.ofNat k)++[(10,.bool false)],aH::H)) (t38 n k b full H (Int.ofNat k)) (aB n) (af _ _) (ag _ _) (by
    refine Tr.aj (fun hc=>?_) (fun hc=>Tr.ar rfl)
    simp (disch:=omega) only[nV,nW] at hc;omega)
   exact h1
end
end Go.Eng
end
section
namespace Go.Eng
open Go.Proofs
noncomputable def LH (l:Nat) (z:Nat→Int) (k:Nat) (b:Nat→Int) (full:Bool) (j:Int) (D:Bool):List AV→Option (Prop×AV):=fun x=>some (x=[aO 5 l z,cQ k b full,.int .i64 j],.bool D)
noncomputable def zh (l k:Nat) (z b:Nat→Int) (full:Bool) (s j:Int):au:=[(0,aO 5 l z),(1,cQ k b full),(5,.int .i64 s),(6,.int .i64 j)]
theorem t39 (n l k:Nat) (z b:Nat→Int) (full:Bool) (H:aa) (s j:Int) (D:Bool):aP (bt n 39 25) (il (ly aT 73 (LH l z k b full j D)) n 0) a6 a7 (part Tryz.f39 [1,1,0,1,0,0]) (hints (zh l k z b full s j)) (aH::H) =
 (fun (Z0:Nat×AV×Option Nat)=>Tr.ite (cP j (Int.ofNat l)) (Tr.reqP ([aO 5 l z,AV.slcT none (Row.M [aW.arr .i64 b k]) 1 k full,AV.int .i64 j]=[aO 5 l z,AV.slcT none (Row.M [aW.arr .i64 b k]) 1 k full,AV.int .i64 j]) (Tr.ite D (Tr.req (dY j l) (Tr.req (bX (aq (aD 0 j 5) 4) (bg l 5)) (Tr.ok (Ex.normal,[(0,aO 5 l z,none),Z0,(5,AV.int .i64 (bk .i64 s (z (aq (aD 0 j 5) 4))),none),(6,AV.int .i64 (bk .i64 j (Int.ofNat 1)),none)],aH::H)))) (Tr.ok (Ex.normal,[(0,aO 5 l z,none),Z0,(5,AV.int .i64 s,none),(6,AV.int .i64 (bk .i64 j (Int.ofNat 1)),none)],aH::H)))) (Tr.ok (Ex.exit 0,[(0,aO 5 l z,none),Z0,(5,AV.int .i64 s,none),(6,AV.int .i64 j,none),(10,AV.bool false,some 1)],aH::H))) (1,AV.slcT none (Row.M [aW.arr .i64 b k]) 1 k full,none):=by kernel_rfl
theorem Nq (n l k:Nat) (z b:Nat→Int) (full:Bool) (H:aa) (s j:Int):aP (bt n 39 25) (il aT n 0) a6 a7 (part Tryz.f39 [1,1,0,1,0,0]) (hints (zh l k z b full s j)) (aH::H) =
 Tr.ite (cP j (Int.ofNat l)) Tr.bad (Tr.ok (Ex.exit 0,[(0,aO 5 l z,none),(1,AV.slcT none (Row.M [aW.arr .i64 b k]) 1 k full,none),(5,AV.int .i64 s,none),(6,AV.int .i64 j,none),(10,AV.bool false,some 1)],aH::H)):=by kernel_rfl
theorem QN (n l k:Nat) (z b:Nat→Int) (full:Bool) (H:aa) (s:Int):bK Tryz.prog (cd n) 100000 39 Tryz.f39 (KtB.kt 39) (il aT n 0) (eT a6 0 (zh l k z b full 0 0) (aH::H) (.ok (.normal,hints (zh l k z b full s (Int.ofNat l)++[(10,.bool false)]),aH::H))) a7 [(aO 5 l z,none),(cQ k b full,none)] H =
 (fun (Z0:au)=>Tr.reqP (Z0=Z0∧aH::H=aH::H) (Tr.ok ((AV.int .i64 s,none),H))) [(0,aO 5 l z),(1,AV.slcT none (Row.M [aW.arr .i64 b k]) 1 k full),(5,AV.int .i64 (Int.ofNat 0)),(6,AV.int .i64 (Int.ofNat 0))]:=by kernel_rfl
theorem Ol:∀ b,(0,b) ∈ aV (bQ Tryz.f39)→b=.loop (part Tryz.f39 [1,1,0,1,0,0]):=gM (by kernel_rfl)
end Go.Eng
end
section
namespace Go.Eng
open Go.Proofs
theorem Lz {c l k:Nat} {t:nI} {z b:Nat→Int} {full D:Bool} {j:Int} (ht:t.Ok (cd c)) (h:∀ H,cd c (.fn 73) [aO 5 l z,cQ k b full,.int .i64 j] H=some (.bool D,H)):(ly t 73 (LH l z k b full j D)).Ok (cd c):=by
 refine fD ht (fun args p v hg hp H=>?_)
 unfold LH at hg
 simp only[nP] at hg
 obtain ⟨rfl,rfl⟩:=hg
 rw[hp];exact h H
noncomputable def tn (z:Nat→Int) (k:Nat) (b:Nat→Int):Nat→Int
 | 0=>0
 | j+1=>if BH z b k j=true then tn z k b j+z (j*5+4) else tn z k b j
theorem EH {l:Nat} {z:Nat→Int} (h:bY l z=0) (k:Nat) (b:Nat→Int):∀ j,j≤l→0≤tn z k b j∧tn z k b j≤j*100000
 | 0,_=>by simp[tn]
 | j+1,hj=>by
   obtain ⟨hl,hb⟩:=cM h
   have:=hb j (by omega)
   have ih:=EH h k b j (by omega)
   unfold tn
   split<;>omega
section
variable (n l k:Nat) (z b:Nat→Int) (full:Bool) (H:aa)
end
end Go.Eng
end
section
namespace Go.Eng
open Go.Proofs
section
variable (n l k:Nat) (z b:Nat→Int) (full:Bool) (H:aa)
theorem N8 (h:bY l z=0) (hk:k≤1000):cd (n+5) (.fn 39) [aO 5 l z,cQ k b full] H=some (.int .i64 (tn z k b l),H):=by
 obtain ⟨hl,hb⟩:=cM h
 have hx:=iR (n:=n+4) (f:=39) (nt:=25) (c:=part Tryz.f39 [1,1,0,1,0,0]) 0 (fun j=>zh l k z b full (tn z k b j) (j:Int)) (fun _=>aH::H) l (zh l k z b full (tn z k b l) (Int.ofNat l)++[(10,.bool false)],aH::H) (by omega) (fun j hj=>?_) ?_
 · refine bw (n:=n+4) Tryz.func39 rfl rfl rfl (QN (n+4) l k z b full H (tn z k b l)) (aB _) (bu (af _ _) Ol (fun x hy=>by rw[← Tr.ab hy];simp only[fz.st,aN];exact hx)) (ag _ _) ?_
   exact wF
 · have hc:∀ H,cd (n+4) (.fn 73) [aO 5 l z,cQ k b full,.int .i64 (j:Int)] H=some (.bool (BH z b k j),H):=fun H=>Lu n l k z b H j full h hj hk
   have hw:=EH h k b j (by omega)
   have hz:=hb j hj
   have hs:tn z k b (j+1)=if BH z b k j=true then tn z k b j+z (j*5+4) else tn z k b j:=rfl
   refine az (t39 (n+4) l k z b full H (tn z k b j) (j:Int) (BH z b k j)) (cY _ _ (Lz (bp _) hc)) (af _ _) (ag _ _) ?_
   have e5:aD 0 (j:Int) 5=j*5:=by rw[bS];omega
   have e4:aq (j*5) 4=j*5+4:=by rw[ba]
   have ea:bk .i64 (tn z k b j) (z (j*5+4))=tn z k b j+z (j*5+4):=by rw[dB];exact dv (by omega) (by omega)
   rw[lx (by omega),e5,e4,ea,hs]
   cases BH z b k j with
   | true =>
     rw[if_pos rfl]
     exact wF
   | false =>
     rw[if_neg (by decide)]
     exact wF
 · obtain ⟨x,h1,rfl⟩:=az (Q:=fun x=>x=(.exit 0,zh l k z b full (tn z k b l) (Int.ofNat l)++[(10,.bool false)],aH::H)) (Nq (n+4) l k z b full H (tn z k b l) (Int.ofNat l)) (aB _) (af _ _) (ag _ _) (by
    refine Tr.aj (fun hc=>?_) (fun hc=>Tr.ar rfl)
    simp (disch:=omega) only[nV,nW] at hc;omega)
   exact h1
end
end Go.Eng
end
section
namespace Go.Eng
open Go.Proofs
noncomputable def gX (A:List AV) (V:AV):List AV→Option (Prop×AV):=fun x=>some (x=A,V)
noncomputable def tX (t:nI) (f:FuncId) (A:List AV) (V:AV):nI:=ly t f (gX A V)
theorem dz {c f:Nat} {t:nI} {A:List AV} {V:AV} (ht:t.Ok (cd c)) (h:∀ H,cd c (.fn f) A H=some (V,H)):(tX t f A V).Ok (cd c):=by
 refine fD ht (fun args p v hg hp H=>?_)
 unfold gX at hg
 simp only[nP] at hg
 obtain ⟨rfl,rfl⟩:=hg
 rw[hp];exact h H
theorem K5 {c:Nat} {t:nI} (h:0<c) (ht:t.Ok (cd c)):(ly t 15 G4).Ok (cd c):=by
 obtain ⟨m,rfl⟩:∃ m,c=m+1:=⟨c-1,by omega⟩
 exact LA ht
section
variable (n l k:Nat) (z b:Nat→Int) (full:Bool) (H:aa)
end
end Go.Eng
end
section
namespace Go.Eng
open Go.Proofs
end Go.Eng
end
section
namespace Go.Eng
open Go.Proofs
theorem FM (A:List Int):((List.range A.length).map fun q=>aL A (0+q))=A:=by
 apply List.ext_getElem (by simp)
 intro i h1 h2
 simp only[List.getElem_map,List.getElem_range,Nat.zero_add,su,List.getD_eq_getElem?_getD,List.getElem?_eq_getElem h2,Option.getD_some]
theorem IP (A:List Int):CD iL (aL A) 0 A.length=aL (iL A):=by
 funext x
 have hl:(iL A).length=A.length:=List.length_mergeSort A
 unfold CD
 rw[FM,su,su]
 by_cases h:x<A.length
 · rw[if_pos (by omega),Nat.sub_zero]
 · rw[if_neg (by omega),List.getD_eq_getElem?_getD,List.getD_eq_getElem?_getD,List.getElem?_eq_none (by omega),List.getElem?_eq_none (by omega)]
theorem GJ (L:List Int):(iL L).length=L.length:=List.length_mergeSort L
end Go.Eng
end
section
namespace Go.Eng
open Go.Proofs
section
variable (n l k:Nat) (z b:Nat→Int) (H:aa)
end
end Go.Eng
end
section
namespace Go.Eng
open Go.Proofs
theorem vN {L:List Int} {x:Int} (h:x ∈ L):∃ j,j<L.length∧aL L j=x:=by
 obtain ⟨j,hj,rfl⟩:=List.getElem_of_mem h
 exact ⟨j,hj,by rw[su,List.getD_eq_getElem?_getD,List.getElem?_eq_getElem hj];rfl⟩
theorem D5 (z:Nat→Int) (b x:Int):pB z b x=true↔c5 z x.toNat≤b∧b≤cB z x.toNat:=by
 unfold pB uf;rw[Bool.and_eq_true,decide_eq_true_eq,decide_eq_true_eq]
end Go.Eng
end
section
namespace Go.Eng
open Go.Proofs
end Go.Eng
end
section
namespace Go.Eng
open Go.Proofs
section
variable (n l p:Nat) (z x:Nat→Int) (H:aa) (w:Int)
end
end Go.Eng
end
section
namespace Go.Eng
open Go.Proofs
section
variable (n l:Nat) (z:Nat→Int) (H:aa) (w:Int)
end
end Go.Eng
end
section
namespace Go.Eng
open Go.Proofs
theorem HW {p:Nat→Bool} {k:Nat} (h:∀ j,j<k→p j=false):lB p k=false:=by
 cases e:lB p k with
 | false=>rfl
 | true =>
   obtain ⟨j,hj,e2⟩:=(ko _ _).1 e
   rw[h j hj] at e2;cases e2
theorem Fv {p:Nat→Bool} {k:Nat} (h:¬ lB p k=true):∀ j,j<k→p j=false:=fun j hj=>by
 cases e:p j with
 | false=>rfl
 | true=>exact absurd ((ko _ _).2 ⟨j,hj,e⟩) h
theorem Ev (L:List Int):(iL L).Perm L:=List.mergeSort_perm L _
theorem IX (L:List Int):(iL L).Pairwise (·≤·):=by
 have:=List.pairwise_mergeSort (le:=fun x y:Int=>decide (x≤y)) (fun a b c h1 h2=>by simp only[decide_eq_true_eq] at *;omega) (fun a b=>by simp only[Bool.or_eq_true,decide_eq_true_eq];omega) L
 exact this.imp (fun h=>by simpa using h)
theorem vM (S:List Int) (j:Nat) (hj:j<S.length):aL S j=S[j]:=by
 rw[su,List.getD_eq_getElem?_getD,List.getElem?_eq_getElem hj];rfl
end Go.Eng
end
section
namespace Go.Eng
open Go.Proofs
end Go.Eng
end
section
namespace Go.Eng
open Go.Proofs
end Go.Eng
end
section
namespace Go.Eng
open Go.Proofs
noncomputable def gY (s l:Nat) (y:Nat→Int):AV:=.ptrT (some s) (.G [aO 7 l y]) 0
theorem NI (n s:Nat) (l:Nat) (y m:Nat→Int) (H:aa) (q:Int):bK Tryz.prog (cd (n+1)) 100000 56 Tryz.f56 (KtB.kt 56) (il aT n 1) (eT a6 0 (wX l y q 0) (xN (gN (fun x=>Int.ofNat 0) 0 (fun x=>Int.ofNat 0) 14)::H) (.ok (.normal,hints (wX l y q (Int.ofNat l)++[(15,.bool false)]),xN m::H))) a7 [(gY s l y,none),(.int .i64 q,none)] H =
 (fun (Z0:bo)=>((fun (Z1:au)=>Tr.req (bX 0 14) (Tr.req (dJ 0 0) (Tr.req (qu 0 14 0 14) (Tr.reqP (Z1=Z1∧Z0::H=Z0::H) (Tr.req (qu 0 14 0 14) (Tr.ok ((AV.agg (Row.M [aW.arr .i64 (gN (fun x=>Int.ofNat 0) 0 m 14) 14]),none),H))))))) [(1,AV.int .i64 q),(4,AV.ptr 0 0 0 0),(5,AV.ptr 0 1 0 0),(12,aO 7 l y),(13,AV.int .i64 (Int.ofNat l)),(14,AV.int .i64 (Int.ofNat 0))])) { lock:=false,bs:=[(0,al.row (Row.M [aW.arr .i64 (fun x=>Int.ofNat 0) 14])),(0,al.row (Row.M [aW.arr .i64 (gN (fun x=>Int.ofNat 0) 0 (fun x=>Int.ofNat 0) 14) 14]))] }:=by kernel_rfl
theorem KX (n s:Nat) (l:Nat) (y:Nat→Int) (H:aa):bK Tryz.prog (cd (n+3)) 100000 64 Tryz.f64 (KtB.kt 64) (il aT (n+1) 2) (eT a6 0 (pr .nils l y 0) (aH::H) (.ok (.normal,hints (pr .nils l y (Int.ofNat l)++[(12,.bool false)]),aH::H))) a7 [(gY s l y,none)] H =
 (fun (Z0:au)=>Tr.reqP (Z0=Z0∧aH::H=aH::H) (Tr.ok ((AV.nils,none),H))) [(3,AV.nils),(9,aO 7 l y),(10,AV.int .i64 (Int.ofNat l)),(11,AV.int .i64 (Int.ofNat 0))]:=by kernel_rfl
theorem KY (n s:Nat) (l:Nat) (y g:Nat→Int) (H:aa) (v k:Nat):bK Tryz.prog (cd (n+3)) 100000 64 Tryz.f64 (KtB.kt 64) (il aT (n+1) 2) (eT a6 0 (pr .nils l y 0) (aH::H) (.ok (.normal,hints (pr (.slc 0 0 v 0 1 k none) l y (Int.ofNat l)++[(12,.bool false)]),⟨false,[(v,.row (.M [.arr .i64 g k]))]⟩::H))) a7 [(gY s l y,none)] H =
 (fun (Z0:au)=>Tr.reqP (Z0=Z0∧aH::H=aH::H) (Tr.req (dJ v v) (Tr.req (qu 0 k 0 k) (Tr.ok ((AV.slcT none (Row.M [aW.arr .i64 (qL g 0) k]) 1 k false,none),H))))) [(3,AV.nils),(9,aO 7 l y),(10,AV.int .i64 (Int.ofNat l)),(11,AV.int .i64 (Int.ofNat 0))]:=by kernel_rfl
section
variable (n s l:Nat) (z:Nat→Int) (H:aa) (q:Int)
theorem Lt (h:bY l z=0):cd (n+2) (.fn 56) [gY s l (oY z l),.int .i64 q] H=some (.agg (.M [.arr .i64 (iO z q l) 14]),H):=by
 refine bw (n:=n+1) Tryz.func56 rfl rfl rfl (NI n s l (oY z l) (iO z q l) H q) (fJ n 1) (bu (af _ _) Om (fun x hx=>by rw[← Tr.ab hx];simp only[fz.st,aN];exact Ql n l z H q h)) (ag _ _) ?_
 have hm:gN (fun x=>Int.ofNat 0) 0 (iO z q l) 14=iO z q l:=by
  obtain ⟨hl,_⟩:=cM h
  rw[nZ];funext i;unfold tz iO
  by_cases hi:i<14
  · simp[hi]
  · simp[hi,show ¬ i<l by omega]
 rw[hm]
 exact wF
theorem Jh (h:bY l z=0):cd (n+4) (.fn 64) [gY s l (oY z l)] H=some (dA (dl (jy z) l),H):=by
 have hx:=Qm n l z H h
 cases e:dl (jy z) l with
 | nil =>
   rw[e] at hx
   refine bw (n:=n+3) Tryz.func64 rfl rfl rfl (KX n s l (oY z l) H) (fJ (n+1) 2) (bu (af _ _) N3 (fun x h=>by rw[← Tr.ab h];simp only[fz.st,aN];exact hx)) (ag _ _) ?_
   exact wF
 | cons a r =>
   rw[e] at hx
   refine bw (n:=n+3) Tryz.func64 rfl rfl rfl (KY n s l (oY z l) (aL (a::r)) H r.length (r.length+1)) (fJ (n+1) 2) (bu (af _ _) N3 (fun x h=>by rw[← Tr.ab h];simp only[fz.st,aN];exact hx)) (ag _ _) ?_
   rw[gH]
   exact wF
end
end Go.Eng
end
section
namespace Go.Eng
open Go.Proofs
noncomputable def H4 (B:AV) (m:Int→Nat→Int):List AV→Option (Prop×AV)
 | [A,.int .i64 q]=>some (A=B,.agg (.M [.arr .i64 (m q) 14]))
 | _=>none
noncomputable def w6 (l:Nat) (y:Nat→Int) (a j:Int):au:=[(9,.ptr 0 0 0 0),(10,.ptr 0 1 0 0),(11,.int .i64 a),(35,aO 7 l y),(36,.int .i64 (Int.ofNat l)),(37,.int .i64 j)]
noncomputable def xO (a b:Nat→Int):bo:=⟨false,[(0,.row (.M [.arr .i64 a 14])),(0,.row (.M [.arr .i64 b 14]))]⟩
theorem t93 (n l:Nat) (y a b:Nat→Int) (H:aa) (s j:Int):aP (bt n 93 56) (il aT n 0) a6 a7 (part Tryz.f93 [1,1,1,1,1,0,1,0,0]) (hints (w6 l y s j)) (xO a b::H) =
 (fun (Z0:bo)=>Tr.ite (cP j (Int.ofNat l)) (Tr.req (dY j l) (Tr.req (bX (aD 0 j 7) (bg l 7)) (Tr.req (bX (aq (aD 0 j 7) 1) (bg l 7)) (Tr.req (bX (aq (aD 0 j 7) 2) (bg l 7)) (Tr.req (bX (aq (aD 0 j 7) 3) (bg l 7)) (Tr.req (bX (aq (aD 0 j 7) 4) (bg l 7)) (Tr.req (bX (aq (aD 0 j 7) 5) (bg l 7)) (Tr.req (bX (aq (aD 0 j 7) 6) (bg l 7)) (Tr.req (dY j 14) (Tr.req (dJ 0 0) (Tr.req (bX (aD 0 j 1) 14) (Tr.req (dY j 14) (Tr.req (dJ 0 0) (Tr.req (bX (aD 0 j 1) 14) (Tr.ite (cP (b (aD 0 j 1)) (a (aD 0 j 1))) (Tr.ok (Ex.normal,[(9,AV.ptr 0 0 0 0,none),(10,AV.ptr 0 1 0 0,none),(11,AV.int .i64 (bk .i64 s (y (aq (aD 0 j 7) 4))),none),(35,aO 7 l y,none),(36,AV.int .i64 (Int.ofNat l),none),(37,AV.int .i64 (bk .i64 j (Int.ofNat 1)),none)],Z0::H)) (Tr.ok (Ex.normal,[(9,AV.ptr 0 0 0 0,none),(10,AV.ptr 0 1 0 0,none),(11,AV.int .i64 s,none),(35,aO 7 l y,none),(36,AV.int .i64 (Int.ofNat l),none),(37,AV.int .i64 (bk .i64 j (Int.ofNat 1)),none)],Z0::H))))))))))))))))) (Tr.ok (Ex.exit 0,[(9,AV.ptr 0 0 0 0,none),(10,AV.ptr 0 1 0 0,none),(11,AV.int .i64 s,none),(35,aO 7 l y,none),(36,AV.int .i64 (Int.ofNat l),none),(37,AV.int .i64 j,none),(38,AV.bool false,some 1)],{ lock:=false,bs:=[(0,al.row (Row.M [aW.arr .i64 a 14])),(0,al.row (Row.M [aW.arr .i64 b 14]))] } :: H))) { lock:=false,bs:=[(0,al.row (Row.M [aW.arr .i64 a 14])),(0,al.row (Row.M [aW.arr .i64 b 14])),(0,al.row (Row.I .i64 [y (aD 0 j 7),y (aq (aD 0 j 7) 1),y (aq (aD 0 j 7) 2),y (aq (aD 0 j 7) 3),y (aq (aD 0 j 7) 4),y (aq (aD 0 j 7) 5),y (aq (aD 0 j 7) 6)]))] }:=by kernel_rfl
theorem KZ (n s l k:Nat) (y P a b:Nat→Int) (m:Int→Nat→Int) (H:aa) (f p x:Int):bK Tryz.prog (cd n) 100000 93 Tryz.f93 (KtB.kt 93) (il (ly aT 56 (H4 (gY (s+1) l y) m)) n 0) (eT a6 0 (w6 l y (Int.ofNat 0) (Int.ofNat 0)) (xO a b::H) (.ok (.normal,hints (w6 l y x (Int.ofNat l)++[(38,.bool false)]),xO a b::H))) a7 [(gY s l y,none),(cQ k P false,none),(.int .i64 f,none),(.int .i64 p,none)] H =
 (fun (Z0:au)=>((fun (Z1:bo)=>((fun (Z2:Prop)=>((fun (Z3:Nat×al)=>Tr.req (dY p k) (Tr.req (bX (aD 0 p 1) k) (Tr.reqP Z2 (Tr.req (qu 0 14 0 14) (Tr.req (qu 0 14 0 14) (Tr.ite (mK (Int.ofNat 0) f) (Tr.req (dY f k) (Tr.req (bX (aD 0 f 1) k) (Tr.reqP Z2 (Tr.req (qu 0 14 0 14) (Tr.ite (kd (gN (fun x=>Int.ofNat 0) 0 (m (P (aD 0 p 1))) 14) (gN (gN (fun x=>Int.ofNat 0) 0 (fun x=>Int.ofNat 0) 14) 0 (m (P (aD 0 f 1))) 14) 14) (Tr.ok ((AV.int .i64 (Int.ofNat 0),some 1),H)) (Tr.reqP (Z0=Z0∧{ lock:=false,bs:=[Z3,(0,al.row (Row.M [aW.arr .i64 (gN (gN (fun x=>Int.ofNat 0) 0 (fun x=>Int.ofNat 0) 14) 0 (m (P (aD 0 f 1))) 14) 14]))] } :: H=Z1::H) (Tr.ok ((AV.int .i64 x,none),H)))))))) (Tr.ite (kd (gN (fun x=>Int.ofNat 0) 0 (m (P (aD 0 p 1))) 14) (gN (fun x=>Int.ofNat 0) 0 (fun x=>Int.ofNat 0) 14) 14) (Tr.ok ((AV.int .i64 (Int.ofNat 0),some 1),H)) (Tr.reqP (Z0=Z0∧{ lock:=false,bs:=[Z3,(0,al.row (Row.M [aW.arr .i64 (gN (fun x=>Int.ofNat 0) 0 (fun x=>Int.ofNat 0) 14) 14]))] } :: H=Z1::H) (Tr.ok ((AV.int .i64 x,none),H)))))))))) (0,al.row (Row.M [aW.arr .i64 (gN (fun x=>Int.ofNat 0) 0 (m (P (aD 0 p 1))) 14) 14])))) (AV.ptrT (some (Nat.succ s)) (Row.G [aO 7 l y]) 0=AV.ptrT (some (Nat.succ s)) (Row.G [aO 7 l y]) 0))) { lock:=false,bs:=[(0,al.row (Row.M [aW.arr .i64 a 14])),(0,al.row (Row.M [aW.arr .i64 b 14]))] })) [(9,AV.ptr 0 0 0 0),(10,AV.ptr 0 1 0 0),(11,AV.int .i64 (Int.ofNat 0)),(35,aO 7 l y),(36,AV.int .i64 (Int.ofNat l)),(37,AV.int .i64 (Int.ofNat 0))]:=by kernel_rfl
theorem N4:∀ b,(0,b) ∈ aV (bQ Tryz.f93)→b=.loop (part Tryz.f93 [1,1,1,1,1,0,1,0,0]):=gM (by kernel_rfl)
def eB (z:Nat→Int) (i:Nat):Int:=z (i*5+4)
def vj (a b w:Nat→Int) (j:Nat):Int:=qM (fun i=>if b i<a i then w i else 0) j
theorem CG {a b w:Nat→Int} {B:Int} (hB:0≤B):∀ j,(∀ i,i<j→0≤w i∧w i≤B)→0≤vj a b w j∧vj a b w j≤(j:Int)*B
 | 0,_=>⟨Int.le_refl _,by show (0:Int)≤((0:Nat):Int)*B;simp⟩
 | j+1,h=>by
   obtain ⟨i1,i2⟩:=CG (a:=a) (b:=b) hB j (fun i hi=>h i (by omega))
   have hj:=h j (by omega)
   have e:((j+1:Nat):Int)*B=(j:Int)*B+B:=by rw[show ((j+1:Nat):Int)=(j:Int)+1 from rfl,Int.add_mul,Int.one_mul]
   rw[e]
   show 0≤vj a b w j+(if b j<a j then w j else 0)∧vj a b w j+(if b j<a j then w j else 0)≤_
   split<;>omega
section
variable (n s l k:Nat) (z P:Nat→Int) (H:aa)
theorem Oe (a b:Nat→Int) (h:bY l z=0):exec (bt n 93 56) (.block 0 (.loop (part Tryz.f93 [1,1,1,1,1,0,1,0,0]))) (w6 l (oY z l) (Int.ofNat 0) (Int.ofNat 0)) (xO a b::H)=some (.normal,w6 l (oY z l) (vj a b (eB z) l) (Int.ofNat l)++[(38,.bool false)],xO a b::H):=by
 obtain ⟨hl,hz⟩:=cM h
 refine iR 0 (fun j=>w6 l (oY z l) (vj a b (eB z) j) (j:Int)) (fun _=>xO a b::H) l (w6 l (oY z l) (vj a b (eB z) l) (Int.ofNat l)++[(38,.bool false)],xO a b::H) (by omega) (fun j hj=>?_) ?_
 · have ej:bk .i64 (j:Int) (Int.ofNat 1)=((j+1:Nat):Int):=lx (by omega)
   have ei:aD 0 (j:Int) 7=j*7:=by rw[bS];omega
   have ei1:aD 0 (j:Int) 1=j:=Dx j
   have h4:oY z l (j*7+4)=eB z j:=uM z (by omega) (by omega)
   have hw:∀ i,i<j+1→0≤eB z i∧eB z i≤100000:=fun i hi=>by
    have:=hz i (by omega)
    unfold eB;omega
   obtain ⟨r1,r2⟩:=CG (a:=a) (b:=b) (w:=eB z) (by decide) j (fun i hi=>hw i (by omega))
   have r3:=hw j (by omega)
   have hs:vj a b (eB z) (j+1)=vj a b (eB z) j+(if b j<a j then eB z j else 0):=rfl
   refine az (t93 n l (oY z l) a b H (vj a b (eB z) j) (j:Int)) (aB n) (af _ _) (ag _ _) ?_
   simp only[ei,ba]
   rw[ej,ei1,h4]
   have ea:bk .i64 (vj a b (eB z) j) (eB z j)=vj a b (eB z) j+eB z j:=by rw[dB];exact dv (by omega) (by omega)
   rw[ea]
   generalize vj a b (eB z) (j+1)=t at *
   generalize vj a b (eB z) j=t0 at *
   generalize eB z j=wj at *
   repeat' first | (refine Tr.aj (fun hc=>?_) (fun hc=>?_)<;>(try simp (disch:=omega) only[nV,nW] at hc)<;>(try (exfalso;omega))) | (refine Tr.bm ?_ ?_;· ((try simp (disch:=omega) only[nV,nW]);try omega)) | (refine Tr.aF ?_ ?_;· first | exact trivial | rfl | exact ⟨rfl,rfl⟩ | exact ⟨trivial,rfl⟩ | exact ⟨rfl,by assumption⟩ | exact ⟨trivial,by assumption⟩ | exact ⟨rfl,rfl,rfl⟩ | (simp (disch:=omega) only[nV,nW];done) | ((try simp (disch:=omega) only[nV,nW]);omega)) | fail
   all_goals first
    | (rw[if_pos (by omega)] at hs;subst hs;exact Tr.ar ⟨rfl,rfl⟩)
    | (rw[if_neg (by omega),Int.add_zero] at hs;subst hs;exact Tr.ar ⟨rfl,rfl⟩)
    | fail
 · obtain ⟨x,h1,rfl⟩:=az (Q:=fun x=>x=(.exit 0,w6 l (oY z l) (vj a b (eB z) l) (Int.ofNat l)++[(38,.bool false)],xO a b::H)) (t93 n l (oY z l) a b H (vj a b (eB z) l) (Int.ofNat l)) (aB n) (af _ _) (ag _ _) (by
    exact wF)
   exact h1
theorem HK {g m:Nat→Int} (hg:∀ i,14≤i→g i=0) (hm:∀ i,14≤i→m i=0):gN g 0 m 14=m:=by
 rw[nZ];funext i;unfold tz
 by_cases hi:i<14
 · simp[hi]
 · rw[if_neg (by omega),hg i (by omega),hm i (by omega)]
theorem DL {q:Int} (hl:l≤14):∀ i,14≤i→iO z q l i=0:=fun i hi=>by
 unfold iO;rw[if_neg (by omega)]
theorem G2 {c:Nat} {t:nI} (h:bY l z=0) (ht:t.Ok (cd (c+2))):(ly t 56 (H4 (gY s l (oY z l)) fun q=>iO z q l)).Ok (cd (c+2)):=by
 refine fD ht (fun args p v hg hp H=>?_)
 unfold H4 at hg
 split at hg
 · simp only[nP] at hg
   obtain ⟨rfl,rfl⟩:=hg
   subst hp
   exact Lt c s l z H _ h
 · cases hg
noncomputable def dX (l:Nat) (z P:Nat→Int) (f p:Int):Int:=wB l (c5 z) (cB z) (eB z) P f p
theorem Ha {q r:Int} (i:Nat) (hi:i<l):(iO z r l i<iO z q l i)↔(jQ (c5 z) (cB z) q i=true∧jQ (c5 z) (cB z) r i=false):=by
 have e1:jQ (c5 z) (cB z) q i=uf z q i:=rfl
 have e2:jQ (c5 z) (cB z) r i=uf z r i:=rfl
 rw[e1,e2]
 unfold iO
 cases uf z q i<;>cases uf z r i<;>simp[hi]
theorem GX {f p:Int} (hf:0≤f):vj (iO z (P p.toNat) l) (iO z (P f.toNat) l) (eB z) l=dX l z P f p:=ir l (fun i hi=>by
 rw[if_neg (show ¬ f=-1 by omega)]
 by_cases c:iO z (P f.toNat) l i<iO z (P p.toNat) l i
 · rw[if_pos c,if_pos ((Ha l z i hi).1 c)]
 · rw[if_neg c,if_neg (fun x=>c ((Ha l z i hi).2 x))])
theorem GW {p:Int}:vj (iO z (P p.toNat) l) (fun _=>0) (eB z) l=dX l z P (-1) p:=ir l (fun i hi=>by
 rw[if_pos rfl]
 have e1:jQ (c5 z) (cB z) (P p.toNat) i=uf z (P p.toNat) i:=rfl
 have e2:(0<iO z (P p.toNat) l i)↔uf z (P p.toNat) i=true:=by
  unfold iO;cases uf z (P p.toNat) i<;>simp[hi]
 rw[e1]
 by_cases c:0<iO z (P p.toNat) l i
 · rw[if_pos c,if_pos ⟨e2.1 c,rfl⟩]
 · rw[if_neg c,if_neg (fun x=>c (e2.2 x.1))])
theorem wD {a b w:Nat→Int} {j:Nat} (h:∀ i,i<j→a i=b i):vj a b w j=0:=yF (fun i hi=>by rw[if_neg (by rw[h i hi];omega)])
theorem EV (z y:Nat→Int) (n:Nat):kd z y n=true↔∀ j,j<n→z j=y j:=by
 rw[tV]
 induction n with
 | zero=>simp[allEq]
 | succ n ih =>
   simp only[allEq,Bool.and_eq_true,beq_iff_eq,ih]
   constructor
   · rintro ⟨h1,h2⟩ j hj
     by_cases e:j=n
     · subst e;exact h2
     · exact h1 j (by omega)
   · exact fun h=>⟨fun j hj=>h j (by omega),h n (by omega)⟩
theorem Ah (x y:Nat→Int) (m:Nat) (h:kd x y m=true):∀ j,j<m→x j=y j:=(EV x y m).1 h
theorem OH (f p:Int) (h:bY l z=0) (hk:k≤1000) (hf:-1≤f∧f<k) (hp:0≤p∧p<k):cd (n+3) (.fn 93) [gY s l (oY z l),cQ k P false,.int .i64 f,.int .i64 p] H=some (.int .i64 (dX l z P f p),H):=by
 obtain ⟨hl,_⟩:=cM h
 have e0:∀ q,gN (fun x=>Int.ofNat 0) 0 (iO z q l) 14=iO z q l:=fun q=>HK (fun _ _=>rfl) (DL l z (by omega))
 have e1:gN (fun x=>Int.ofNat 0) 0 (fun x=>Int.ofNat 0) 14=fun _=>(0:Int):=HK (fun _ _=>rfl) (fun _ _=>rfl)
 have e2:∀ q,gN (fun _=>(0:Int)) 0 (iO z q l) 14=iO z q l:=fun q=>HK (fun _ _=>rfl) (DL l z (by omega))
 have ep:aD 0 p 1=p.toNat:=by rw[bS];omega
 by_cases hf0:0≤f
 · have ef:aD 0 f 1=f.toNat:=by rw[bS];omega
   refine bw (n:=n+2) Tryz.func93 rfl rfl rfl (KZ (n+2) s l k (oY z l) P (iO z (P p.toNat) l) (iO z (P f.toNat) l) (fun q=>iO z q l) H f p (dX l z P f p)) (iA _ (n+2) 0 (fun q=>by rw[show n+2+q=n+q+2 by omega];exact G2 (s+1) l z h (bp _))) (bu (af _ _) N4 (fun x hx=>by rw[← Tr.ab hx];simp only[fz.st,aN];rw[← GX l z P hf0];exact Oe (n+2) l z H _ _ h)) (ag _ _) ?_
   simp only[e0,e1,e2,ep,ef]
   have hsame:kd (iO z (P p.toNat) l) (iO z (P f.toNat) l) 14=true→dX l z P f p=0:=fun hc=>by
    rw[← GX l z P hf0]
    exact wD (fun i hi=>Ah _ _ _ hc i (by omega))
   generalize dX l z P f p=V at *
   repeat' first | (refine Tr.aj (fun hc=>?_) (fun hc=>?_)<;>(try simp (disch:=omega) only[nV,nW] at hc)<;>(try (exfalso;omega))) | (refine Tr.bm ?_ ?_;· ((try simp (disch:=omega) only[nV,nW]);try omega)) | (refine Tr.aF ?_ ?_;· first | exact trivial | rfl | exact ⟨rfl,rfl⟩ | exact ⟨trivial,rfl⟩ | exact ⟨rfl,by assumption⟩ | exact ⟨trivial,by assumption⟩ | exact ⟨rfl,rfl,rfl⟩ | (simp (disch:=omega) only[nV,nW];done) | ((try simp (disch:=omega) only[nV,nW]);omega)) | fail
   all_goals first
    | exact Tr.ar ⟨rfl,rfl⟩
    | (have:=hsame (by assumption);subst this;exact Tr.ar ⟨rfl,rfl⟩)
    | fail
 · obtain rfl:f=-1:=by omega
   refine bw (n:=n+2) Tryz.func93 rfl rfl rfl (KZ (n+2) s l k (oY z l) P (iO z (P p.toNat) l) (fun _=>0) (fun q=>iO z q l) H (-1) p (dX l z P (-1) p)) (iA _ (n+2) 0 (fun q=>by rw[show n+2+q=n+q+2 by omega];exact G2 (s+1) l z h (bp _))) (bu (af _ _) N4 (fun x hx=>by rw[← Tr.ab hx];simp only[fz.st,aN];rw[← GW l z P];exact Oe (n+2) l z H _ _ h)) (ag _ _) ?_
   simp only[e0,e1,e2,ep]
   have hsame:kd (iO z (P p.toNat) l) (fun _=>0) 14=true→dX l z P (-1) p=0:=fun hc=>by
    rw[← GW l z P]
    exact wD (fun i hi=>Ah _ _ _ hc i (by omega))
   generalize dX l z P (-1) p=V at *
   repeat' first | (refine Tr.aj (fun hc=>?_) (fun hc=>?_)<;>(try simp (disch:=omega) only[nV,nW] at hc)<;>(try (exfalso;omega))) | (refine Tr.bm ?_ ?_;· ((try simp (disch:=omega) only[nV,nW]);try omega)) | (refine Tr.aF ?_ ?_;· first | exact trivial | rfl | exact ⟨rfl,rfl⟩ | exact ⟨trivial,rfl⟩ | exact ⟨rfl,by assumption⟩ | exact ⟨trivial,by assumption⟩ | exact ⟨rfl,rfl,rfl⟩ | (simp (disch:=omega) only[nV,nW];done) | ((try simp (disch:=omega) only[nV,nW]);omega)) | fail
   all_goals first
    | exact Tr.ar ⟨rfl,rfl⟩
    | (have:=hsame (by assumption);subst this;exact Tr.ar ⟨rfl,rfl⟩)
    | fail
end
end Go.Eng
end
