/- Bath: the book of orders. -/
import Derived.Test.YtigmfpmabgekoaaGreatV12Bak0x6
set_option linter.unusedVariables false
set_option linter.unusedSimpArgs false
set_option maxRecDepth 100000
section
namespace Go.Eng
open Go.Proofs
noncomputable def uU (l:Nat) (z:Nat→Int) (j:Int):ay:=[(3,.ptr 0 0 0 0),(8,aG 5 l z),(9,.int .i64 (Int.ofNat l)),(10,.int .i64 j)]
theorem QT (n:Nat) (l:Nat) (z:Nat→Int) (H:aa):aN (bp n 82 42) (il aR n 0) aW aX (part Tryz.f82 [1,1,0,1,0,0]) (hints (uU l z 0)) (⟨false,[(0,.row (.G [.nils]))]⟩::H) =
 Tr.ite (df (Int.ofNat 0) (Int.ofNat l)) (Tr.req (dR (Int.ofNat 0) l) (Tr.req (bx (au 0 (Int.ofNat 0) 5) (aq l 5)) (Tr.req (bx (ah (au 0 (Int.ofNat 0) 5) 1) (aq l 5)) (Tr.req (bx (ah (au 0 (Int.ofNat 0) 5) 2) (aq l 5)) (Tr.req (bx (ah (au 0 (Int.ofNat 0) 5) 3) (aq l 5)) (Tr.req (bx (ah (au 0 (Int.ofNat 0) 5) 4) (aq l 5)) (Tr.req (dJ 0 1 56) (Tr.req (cM 0 0) (Tr.req (fA 1 1) (Tr.req (gJ (fA 0 0) (fA 0 1)) (Tr.ok (Ex.normal,[(3,AV.ptr 0 0 0 0,none),(8,aG 5 l z,none),(9,AV.int .i64 (Int.ofNat l),none),(10,AV.int .i64 (aK .i64 (Int.ofNat 0) (Int.ofNat 1)),none)],{ lock:=false,bs:=[(0,ak.row (Row.G [AV.slc 0 3 0 0 7 1 none])),(0,ak.row (Row.I .i64 [z (au 0 (Int.ofNat 0) 5),z (ah (au 0 (Int.ofNat 0) 5) 1),z (ah (au 0 (Int.ofNat 0) 5) 2),z (ah (au 0 (Int.ofNat 0) 5) 3),z (ah (au 0 (Int.ofNat 0) 5) 4)])),(0,ak.row (Row.I .i64 [z (au 0 (Int.ofNat 0) 5),z (ah (au 0 (Int.ofNat 0) 5) 1),z (ah (au 0 (Int.ofNat 0) 5) 2),z (ah (au 0 (Int.ofNat 0) 5) 3),z (ah (au 0 (Int.ofNat 0) 5) 4),eO .i64 (z (ah (au 0 (Int.ofNat 0) 5) 1)) (z (ah (au 0 (Int.ofNat 0) 5) 3)),eO .i64 (z (au 0 (Int.ofNat 0) 5)) (z (ah (au 0 (Int.ofNat 0) 5) 2))])),(0,ak.row (Row.M [aL.arr .i64 (aB [z (au 0 (Int.ofNat 0) 5),z (ah (au 0 (Int.ofNat 0) 5) 1),z (ah (au 0 (Int.ofNat 0) 5) 2),z (ah (au 0 (Int.ofNat 0) 5) 3),z (ah (au 0 (Int.ofNat 0) 5) 4),eO .i64 (z (ah (au 0 (Int.ofNat 0) 5) 1)) (z (ah (au 0 (Int.ofNat 0) 5) 3)),eO .i64 (z (au 0 (Int.ofNat 0) 5)) (z (ah (au 0 (Int.ofNat 0) 5) 2))]) 7]))] } :: H)))))))))))) (Tr.ok (Ex.exit 0,[(3,AV.ptr 0 0 0 0,none),(8,aG 5 l z,none),(9,AV.int .i64 (Int.ofNat l),none),(10,AV.int .i64 (Int.ofNat 0),none),(11,AV.bool false,some 1)],{ lock:=false,bs:=[(0,ak.row (Row.G [AV.nils]))] } :: H)):=by kernel_rfl
theorem NB (n:Nat) (l:Nat) (z y:Nat→Int) (H:aa) (j:Int) (v m:Nat):aN (bp n 82 42) (il aR n 0) aW aX (part Tryz.f82 [1,1,0,1,0,0]) (hints (uU l z j)) (⟨false,[(0,.row (.G [.slc 0 1 v 0 7 m none])),(v,.row (.M [.arr .i64 y (aq m 7)]))]⟩::H) =
 Tr.ite (df j (Int.ofNat l)) (Tr.req (dR j l) (Tr.req (bx (au 0 j 5) (aq l 5)) (Tr.req (bx (ah (au 0 j 5) 1) (aq l 5)) (Tr.req (bx (ah (au 0 j 5) 2) (aq l 5)) (Tr.req (bx (ah (au 0 j 5) 3) (aq l 5)) (Tr.req (bx (ah (au 0 j 5) 4) (aq l 5)) (Tr.req (dJ m 1 56) (Tr.req (cM 0 0) (Tr.req (fA 1 1) (Tr.req (cM v v) (Tr.req (cM (ah 0 (aq m 7)) (aq m 7)) (Tr.req (gJ (fA v (Nat.succ v)) (fA (Nat.succ v) (Nat.succ v))) (Tr.req (gJ (fA 0 0) (fA 0 1)) (Tr.ok (Ex.normal,[(3,AV.ptr 0 0 0 0,none),(8,aG 5 l z,none),(9,AV.int .i64 (Int.ofNat l),none),(10,AV.int .i64 (aK .i64 j (Int.ofNat 1)),none)],{ lock:=false,bs:=[(0,ak.row (Row.G [AV.slc 0 1 (Nat.succ v) 0 7 (ah m 1) none])),(Nat.succ v,ak.row (Row.M [aL.arr .i64 (iE (fE y 0) (aq m 7) (aB [z (au 0 j 5),z (ah (au 0 j 5) 1),z (ah (au 0 j 5) 2),z (ah (au 0 j 5) 3),z (ah (au 0 j 5) 4),eO .i64 (z (ah (au 0 j 5) 1)) (z (ah (au 0 j 5) 3)),eO .i64 (z (au 0 j 5)) (z (ah (au 0 j 5) 2))])) (ah (aq m 7) 7)])),(0,ak.row (Row.I .i64 [z (au 0 j 5),z (ah (au 0 j 5) 1),z (ah (au 0 j 5) 2),z (ah (au 0 j 5) 3),z (ah (au 0 j 5) 4)])),(0,ak.row (Row.I .i64 [z (au 0 j 5),z (ah (au 0 j 5) 1),z (ah (au 0 j 5) 2),z (ah (au 0 j 5) 3),z (ah (au 0 j 5) 4),eO .i64 (z (ah (au 0 j 5) 1)) (z (ah (au 0 j 5) 3)),eO .i64 (z (au 0 j 5)) (z (ah (au 0 j 5) 2))])),(0,ak.dead)] } :: H))))))))))))))) (Tr.ok (Ex.exit 0,[(3,AV.ptr 0 0 0 0,none),(8,aG 5 l z,none),(9,AV.int .i64 (Int.ofNat l),none),(10,AV.int .i64 j,none),(11,AV.bool false,some 1)],{ lock:=false,bs:=[(0,ak.row (Row.G [AV.slc 0 1 v 0 7 m none])),(v,ak.row (Row.M [aL.arr .i64 y (aq m 7)]))] } :: H)):=by kernel_rfl
theorem Uu (n:Nat) (l:Nat) (z y:Nat→Int) (H:aa) (v m:Nat):bu Tryz.prog (cd n) 100000 82 Tryz.f82 (KtB.kt 82) (il aR n 0) (eP aW 0 (uU l z 0) (⟨false,[(0,.row (.G [.nils]))]⟩::H) (.ok (.normal,hints (uU l z (Int.ofNat l)++[(11,.bool false)]),⟨false,[(0,.row (.G [.slc 0 1 v 0 7 m none])),(v,.row (.M [.arr .i64 y (aq m 7)]))]⟩::H))) aX [(aG 5 l z,none)] H =
 (fun (Z0:ay)=>Tr.reqP (Z0=Z0∧{ lock:=false,bs:=[(0,ak.row (Row.G [AV.nils]))] } :: H={ lock:=false,bs:=[(0,ak.row (Row.G [AV.nils]))] } :: H) (Tr.req (cM v v) (Tr.req (la 0 (aq m 7) 0 (aq m 7)) (Tr.ok ((AV.ptrT (some 0) (Row.G [AV.slcT none (Row.M [aL.arr .i64 (fE y 0) (aq m 7)]) 7 m false]) 0,none),H))))) [(3,AV.ptr 0 0 0 0),(8,aG 5 l z),(9,AV.int .i64 (Int.ofNat l)),(10,AV.int .i64 (Int.ofNat 0))]:=by kernel_rfl
def oZ (z:Nat→Int) (i:Nat):Int:=if i % 7<5 then z (i / 7*5+i % 7) else if i % 7=5 then cq z (i / 7) else bE z (i / 7)
def oY (z:Nat→Int) (j:Nat) (i:Nat):Int:=if i<j*7 then oZ z i else 0
noncomputable def FK (z:Nat→Int):Nat→bm
 | 0=>⟨false,[(0,.row (.G [.nils]))]⟩
 | j+1=>⟨false,[(0,.row (.G [.slc 0 1 j 0 7 (j+1) none])),(j,.row (.M [.arr .i64 (oY z (j+1)) (aq (j+1) 7)]))]⟩
theorem RX:∀ b,(0,b) ∈ bc (bZ Tryz.f82)→b=.loop (part Tryz.f82 [1,1,0,1,0,0]):=jj (by kernel_rfl)
theorem F0 (z:Nat→Int) (j:Nat):iE (fE (oY z j) 0) (aq j 7) (aB [z (j*5),z (j*5+1),z (j*5+2),z (j*5+3),z (j*5+4),cq z j,bE z j])=oY z (j+1):=by
 funext i
 rw[jN,jE,lL,eL]
 unfold oY
 by_cases h:i<j*7
 · simp[h,show i<(j+1)*7 by omega]
 · by_cases h2:i<(j+1)*7
   · obtain ⟨r,hr,rfl⟩:∃ r,r<7∧i=j*7+r:=⟨i-j*7,by omega,by omega⟩
     have e1:(j*7+r) / 7=j:=by omega
     have e2:(j*7+r) % 7=r:=by omega
     unfold oZ
     rw[e1,e2]
     have:r=0∨r=1∨r=2∨r=3∨r=4∨r=5∨r=6:=by omega
     rcases this with rfl | rfl | rfl | rfl | rfl | rfl | rfl<;>simp[h2,Nat.add_sub_cancel_left]<;>omega
   · simp[h,h2,List.getD_eq_getElem?_getD,List.getElem?_eq_none (show [z (j*5),z (j*5+1),z (j*5+2),z (j*5+3),z (j*5+4),cq z j,bE z j].length≤i-j*7 by simp;omega)]
section
variable (n:Nat) (l:Nat) (z:Nat→Int) (H:aa)
theorem T2 (h:bh l z=0):exec (bp n 82 42) (.block 0 (.loop (part Tryz.f82 [1,1,0,1,0,0]))) (uU l z 0) (FK z 0::H)=some (.normal,uU l z (Int.ofNat l)++[(11,.bool false)],FK z l::H):=by
 obtain ⟨hl,hb⟩:=bM h
 have:=j9 (n:=n) (f:=82) (nt:=42) (c:=part Tryz.f82 [1,1,0,1,0,0]) 0 (fun j=>uU l z (j:Int)) (fun j=>FK z j::H) l (uU l z (Int.ofNat l)++[(11,.bool false)],FK z l::H) (by omega) (fun j hj=>?_) ?_
 · exact this
 · have b:=hb j hj
   have ej:aK .i64 (j:Int) (Int.ofNat 1)=((j+1:Nat):Int):=by rw[bH,show Int.ofNat 1=1 from rfl];exact cr (by omega) (by omega)
   have ei:au 0 (j:Int) 5=j*5:=by rw[bB];omega
   have s1:eO .i64 (z (j*5+1)) (z (j*5+3))=cq z j:=by rw[gE];exact cr (by omega) (by omega)
   have s2:eO .i64 (z (j*5)) (z (j*5+2))=bE z j:=by rw[gE];exact cr (by omega) (by omega)
   cases j with
   | zero =>
     have e0:=F0 z 0
     have ei':au 0 (Int.ofNat 0) 5=0:=by rw[bB];rfl
     have ej':aK .i64 (Int.ofNat 0) (Int.ofNat 1)=((0+1:Nat):Int):=ej
     have s1':eO .i64 (z (0+1)) (z (0+3))=cq z 0:=s1
     have s2':eO .i64 (z 0) (z (0+2))=bE z 0:=s2
     have e9:aB [z 0,z (0+1),z (0+2),z (0+3),z (0+4),cq z 0,bE z 0]=oY z (0+1):=by
      rw[← e0,jN,jE,eL]
      funext i;simp
     have e7:aq (0+1) 7=7:=by rw[eL]
     refine aD (QT n l z H) (aI n) (af _ _) (ag _ _) ?_
     rw[ei',ej']
     simp only[aU]
     rw[s1',s2',e9]
     repeat' first | (refine Tr.al (fun hc=>?_) (fun hc=>?_)<;>(try simp (disch:=omega) only[nV,nW] at hc)<;>try omega) | (refine Tr.a8 ?_ ?_;· (try simp (disch:=omega) only[nV,nW]);try omega) | (refine Tr.aw ?_ ?_;· first | exact trivial | rfl | exact ⟨rfl,rfl⟩ | exact ⟨rfl,rfl,rfl⟩ | (simp (disch:=omega) only[nV,nW];done) | ((try simp (disch:=omega) only[nV,nW]);omega)) | fail
     all_goals first
      | (refine Tr.av ⟨rfl,?_⟩
         show _=(uU l z ((0+1:Nat):Int),(⟨false,[(0,.row (.G [.slc 0 1 0 0 7 (0+1) none])),(0,.row (.M [.arr .i64 (oY z (0+1)) (aq (0+1) 7)]))]⟩:bm)::H)
         rw[e7];rfl)
      | fail
   | succ j =>
     have e0:=F0 z (j+1)
     have e7:ah (aq (j+1) 7) 7=aq (j+1+1) 7:=by rw[aU,eL,eL];omega
     have e8:ah (j+1) 1=j+1+1:=by rw[aU]
     refine aD (NB n l z (oY z (j+1)) H ((j+1:Nat):Int) j (j+1)) (aI n) (af _ _) (ag _ _) ?_
     rw[ei,ej,e7,e8]
     have ea:∀ k,ah ((j+1)*5) k=(j+1)*5+k:=fun k=>by rw[aU]
     simp only[ea]
     rw[s1,s2,e0]
     exact wF
 · cases l with
   | zero=>omega
   | succ k =>
     obtain ⟨x,h1,rfl⟩:=aD (Q:=fun x=>x=(.exit 0,uU (k+1) z (Int.ofNat (k+1))++[(11,.bool false)],FK z (k+1)::H)) (NB n (k+1) z (oY z (k+1)) H (Int.ofNat (k+1)) k (k+1)) (aI n) (af _ _) (ag _ _) (by
      exact wF)
     exact h1
noncomputable def vu (l:Nat) (z:Nat→Int):AV:=.ptrT (some 0) (.G [aG 7 l (oY z l)]) 0
theorem Si (h:bh l z=0):cd (n+1) (.fn 82) [aG 5 l z] H=some (vu l z,H):=by
 obtain ⟨hl,_⟩:=bM h
 have lp:=T2 n l z H h
 cases l with
 | zero=>omega
 | succ k =>
   refine ba (n:=n) Tryz.func82 rfl rfl rfl (Uu n (k+1) z (oY z (k+1)) H k (k+1)) (aI n) (bz (af _ _) RX (fun x hx=>by rw[← Tr.ab hx];simp only[gi.st,aP];exact lp)) (ag _ _) ?_
   repeat' first | (refine Tr.al (fun hc=>?_) (fun hc=>?_)<;>(try simp (disch:=omega) only[nV,nW] at hc)<;>try omega) | (refine Tr.a8 ?_ ?_;· (try simp (disch:=omega) only[nV,nW]);try omega) | (refine Tr.aw ?_ ?_;· first | exact trivial | rfl | exact ⟨rfl,rfl⟩ | exact ⟨rfl,rfl,rfl⟩ | (simp (disch:=omega) only[nV,nW];done) | ((try simp (disch:=omega) only[nV,nW]);omega)) | fail
   all_goals first
    | (refine Tr.av ⟨?_,rfl⟩
       rw[c9];rfl)
    | fail
end
end Go.Eng
end
section
namespace Go.Eng
open Go.Proofs
noncomputable def gO (L V:AV):List AV→Option (Prop×AV)
 | [a]=>some (a=L,V)
 | _=>none
theorem Ur (n:Nat) (l:Nat) (z:Nat→Int) (H:aa) (e:Int) (y:Nat→Int):bu Tryz.prog (cd (n+9)) 100000 52 Tryz.f52 (KtB.kt 52) (il (iz (iz aR 20 (Oa (aG 5 l z) e)) 82 (gO (aG 5 l z) (.ptrT (some 0) (.G [aG 7 l y]) 0))) (n+9) 0) aW aX [(aG 5 l z,none)] H =
 Tr.reqP (aG 5 l z=aG 5 l z) (Tr.ite (bG (dD e (Int.ofNat 0))) (Tr.ok ((AV.tup [AV.nilp,AV.int .i64 e],none),H)) (Tr.reqP (aG 5 l z=aG 5 l z) (Tr.ok ((AV.tup [AV.ptrT (some 0) (Row.G [aG 7 l y]) 0,AV.int .i64 (Int.ofNat 0)],none),H)))):=by kernel_rfl
theorem Q5 (n:Nat) (l:Nat) (z:Nat→Int) (H:aa) (e:Int):bu Tryz.prog (cd (n+9)) 100000 52 Tryz.f52 (KtB.kt 52) (il (iz (iz aR 20 (Oa (aG 5 l z) e)) 82 (fun _=>none)) (n+9) 0) aW aX [(aG 5 l z,none)] H =
 Tr.reqP (aG 5 l z=aG 5 l z) (Tr.ite (bG (dD e (Int.ofNat 0))) (Tr.ok ((AV.tup [AV.nilp,AV.int .i64 e],none),H)) Tr.bad):=by kernel_rfl
theorem u16 (n:Nat) (l:Nat) (z:Nat→Int) (H:aa) (q:Int) (y:Nat→Int):bu Tryz.prog (cd (n+11)) 100000 16 Tryz.f16 (KtB.kt 16) (il (iz aR 52 (gO (aG 5 l z) (.tup [.ptrT (some 0) (.G [aG 7 l y]) 0,.int .i64 0]))) (n+10) 1) aW aX [(aG 5 l z,none),(.int .i64 q,none)] H =
 (fun (Z0:Row)=>Tr.reqP (aG 5 l z=aG 5 l z) (Tr.ite (bG (dD (Int.ofNat 0) (Int.ofNat 0))) (Tr.ok ((AV.tup [AV.agg Z0,AV.int .i64 (Int.ofNat 0)],none),H)) (Tr.ite (df q (Int.ofNat 0)) (Tr.ok ((AV.tup [AV.agg Z0,AV.int .i64 (Int.ofNat 2)],none),H)) (Tr.ite (nM (Int.ofNat l) q) (Tr.ok ((AV.tup [AV.agg Z0,AV.int .i64 (Int.ofNat 2)],none),H)) (Tr.req (dR q l) (Tr.req (bx (au 0 q 7) (aq l 7)) (Tr.req (bx (ah (au 0 q 7) 1) (aq l 7)) (Tr.req (bx (ah (au 0 q 7) 2) (aq l 7)) (Tr.req (bx (ah (au 0 q 7) 3) (aq l 7)) (Tr.req (bx (ah (au 0 q 7) 4) (aq l 7)) (Tr.req (bx (ah (au 0 q 7) 5) (aq l 7)) (Tr.req (bx (ah (au 0 q 7) 6) (aq l 7)) (Tr.ite (bG (nM (y (ah (au 0 q 7) 5)) (y (ah (au 0 q 7) 6)))) (Tr.ok ((AV.tup [AV.agg Z0,AV.int .i64 (Int.ofNat 22)],none),H)) (Tr.req (dR q l) (Tr.req (bx (ah (au 0 q 7) 5) (aq l 7)) (Tr.req (bx (ah (ah (au 0 q 7) 5) 1) (aq l 7)) (Tr.ok ((AV.tup [AV.agg (Row.I .i64 [y (ah (au 0 q 7) 5),y (ah (ah (au 0 q 7) 5) 1)]),AV.int .i64 (Int.ofNat 0)],none),H)))))))))))))))))) (Row.I .i64 [Int.ofNat 0,Int.ofNat 0]):=by kernel_rfl
theorem QX (n:Nat) (l:Nat) (z:Nat→Int) (H:aa) (q e:Int):bu Tryz.prog (cd (n+11)) 100000 16 Tryz.f16 (KtB.kt 16) (il (iz aR 52 (gO (aG 5 l z) (.tup [.nilp,.int .i64 e]))) (n+10) 1) aW aX [(aG 5 l z,none),(.int .i64 q,none)] H =
 Tr.reqP (aG 5 l z=aG 5 l z) (Tr.ite (bG (dD e (Int.ofNat 0))) (Tr.ok ((AV.tup [AV.agg (Row.I .i64 [Int.ofNat 0,Int.ofNat 0]),AV.int .i64 e],none),H)) (Tr.ite (df q (Int.ofNat 0)) (Tr.ok ((AV.tup [AV.agg (Row.I .i64 [Int.ofNat 0,Int.ofNat 0]),AV.int .i64 (Int.ofNat 2)],none),H)) (Tr.ite (nM (Int.ofNat l) q) (Tr.ok ((AV.tup [AV.agg (Row.I .i64 [Int.ofNat 0,Int.ofNat 0]),AV.int .i64 (Int.ofNat 2)],none),H)) Tr.bad))):=by kernel_rfl
section
variable (n:Nat) (l:Nat) (z:Nat→Int) (H:aa) (q:Int)
theorem OJ {f k:Nat} {t:me} {V:AV} (ht:t.Ok (cd k)) (h:∀ H,cd k (.fn f) [aG 5 l z] H=some (V,H)):(iz t f (gO (aG 5 l z) V)).Ok (cd k):=by
 refine dQ ht (fun args p v hg hp H=>?_)
 unfold gO at hg
 split at hg
 · simp only[nP] at hg
   obtain ⟨rfl,rfl⟩:=hg
   subst hp
   exact h H
 · cases hg
noncomputable def m9 (l:Nat) (z:Nat→Int):AV:=if bh l z=0 then .tup [vu l z,.int .i64 0] else .tup [.nilp,.int .i64 (bh l z)]
theorem Oz:cd (n+10) (.fn 52) [aG 5 l z] H=some (m9 l z,H):=by
 unfold m9
 by_cases h:bh l z=0
 · rw[if_pos h]
   refine ba (n:=n+9) Tryz.func52 rfl rfl rfl (Ur n l z H (bh l z) (oY z l)) (cP _ (n+9) 0 (fun k=>OJ l z (RK l z (aO _) (fun H=>by rw[show n+9+k=n+k+9 by omega];exact RG _ l z H)) (fun H=>by rw[show n+9+k=n+8+k+1 by omega];exact Si _ l z H h))) (af _ _) (ag _ _) ?_
   repeat' first | (refine Tr.al (fun hc=>?_) (fun hc=>?_)<;>(try simp (disch:=omega) only[nV,nW,h] at hc)<;>try omega) | (refine Tr.a8 ?_ ?_;· (try simp (disch:=omega) only[nV,nW,h]);try omega) | (refine Tr.aw ?_ ?_;· first | exact trivial | rfl | exact ⟨rfl,rfl⟩ | exact ⟨rfl,rfl,rfl⟩ | (simp (disch:=omega) only[nV,nW,h];done) | ((try simp (disch:=omega) only[nV,nW,h]);omega)) | fail
   all_goals first
    | exact Tr.av ⟨rfl,rfl⟩
    | fail
 · rw[if_neg h]
   refine ba (n:=n+9) Tryz.func52 rfl rfl rfl (Q5 n l z H (bh l z)) (cP _ (n+9) 0 (fun k=>dQ (RK l z (aO _) (fun H=>by rw[show n+9+k=n+k+9 by omega];exact RG _ l z H)) (fun args p v hg hp H=>by cases hg))) (af _ _) (ag _ _) ?_
   exact wF
theorem nU {l j r:Nat} (hj:j<l) (hr:r<7):oY z l (j*7+r)=if r<5 then z (j*5+r) else if r=5 then cq z j else bE z j:=by
 unfold oY oZ
 rw[if_pos (by omega),show (j*7+r) / 7=j by omega,show (j*7+r) % 7=r by omega]
theorem R7:cd (n+12) (.fn 16) [aG 5 l z,.int .i64 q] H=some (JT l z q,H):=by
 have hc:∀ k H,cd (n+10+k) (.fn 52) [aG 5 l z] H=some (m9 l z,H):=fun k H=>by rw[show n+10+k=n+k+10 by omega];exact Oz _ l z H
 unfold JT
 by_cases h:bh l z=0
 · obtain ⟨hl,hb⟩:=bM h
   have ho:m9 l z=.tup [.ptrT (some 0) (.G [aG 7 l (oY z l)]) 0,.int .i64 0]:=by unfold m9;rw[if_pos h];rfl
   rw[ho] at hc
   rw[if_neg (fun x=>x h)]
   refine ba (n:=n+11) Tryz.func16 rfl rfl rfl (u16 n l z H q (oY z l)) (cP _ (n+10) 1 (fun k=>OJ l z (aO _) (hc k))) (af _ _) (ag _ _) ?_
   by_cases hq:0≤q∧q<l
   · rw[if_neg (fun x=>x hq)]
     have ei:au 0 q 7=q.toNat*7:=by rw[bB];omega
     have e6:q.toNat*7+5+1=q.toNat*7+6:=rfl
     have h5:oY z l (q.toNat*7+5)=cq z q.toNat:=nU z (by omega) (by omega)
     have h6:oY z l (q.toNat*7+6)=bE z q.toNat:=nU z (by omega) (by omega)
     simp only[ei,aU,e6]
     rw[h5,h6]
     generalize cq z q.toNat=lo at *
     generalize bE z q.toNat=hi at *
     repeat' first | (refine Tr.al (fun hc=>?_) (fun hc=>?_)<;>(try simp (disch:=omega) only[nV,nW] at hc)<;>try omega) | (refine Tr.a8 ?_ ?_;· (try simp (disch:=omega) only[nV,nW]);try omega) | (refine Tr.aw ?_ ?_;· first | exact trivial | rfl | exact ⟨rfl,rfl⟩ | exact ⟨rfl,rfl,rfl⟩ | (simp (disch:=omega) only[nV,nW];done) | ((try simp (disch:=omega) only[nV,nW]);omega)) | fail
     all_goals first
      | (rw[if_neg (by omega)];exact Tr.av ⟨rfl,rfl⟩)
      | (rw[if_pos (by omega)];exact Tr.av ⟨rfl,rfl⟩)
      | fail
   · rw[if_pos hq]
     exact wF
 · have ho:m9 l z=.tup [.nilp,.int .i64 (bh l z)]:=by unfold m9;rw[if_neg h]
   rw[ho] at hc
   rw[if_pos h]
   refine ba (n:=n+11) Tryz.func16 rfl rfl rfl (QX n l z H q (bh l z)) (cP _ (n+10) 1 (fun k=>OJ l z (aO _) (hc k))) (af _ _) (ag _ _) ?_
   exact wF
end
end Go.Eng
end
section
namespace Go.Eng
open Go.Proofs
noncomputable def yD (l:Nat) (y:Nat→Int) (q j:Int):ay:=[(1,.int .i64 q),(4,.ptr 0 0 0 0),(5,.ptr 0 1 0 0),(12,aG 7 l y),(13,.int .i64 (Int.ofNat l)),(14,.int .i64 j)]
noncomputable def zn (m:Nat→Int):bm:=⟨false,[(0,.row (.M [.arr .i64 (fun x=>Int.ofNat 0) 14])),(0,.row (.M [.arr .i64 m 14]))]⟩
theorem t56 (n:Nat) (l:Nat) (y m:Nat→Int) (H:aa) (q j:Int):aN (bp (n+1) 56 26) (il aR n 1) aW aX (part Tryz.f56 [1,1,1,0,1,0,0]) (hints (yD l y q j)) (zn m::H) =
 (fun (Z0:aT)=>((fun (Z1:Nat×ak)=>((fun (Z2:Nat×ak)=>Tr.ite (df j (Int.ofNat l)) (Tr.req (dR j l) (Tr.req (bx (au 0 j 7) (aq l 7)) (Tr.req (bx (ah (au 0 j 7) 1) (aq l 7)) (Tr.req (bx (ah (au 0 j 7) 2) (aq l 7)) (Tr.req (bx (ah (au 0 j 7) 3) (aq l 7)) (Tr.req (bx (ah (au 0 j 7) 4) (aq l 7)) (Tr.req (bx (ah (au 0 j 7) 5) (aq l 7)) (Tr.req (bx (ah (au 0 j 7) 6) (aq l 7)) (Tr.ite (nM (y (ah (au 0 j 7) 5)) q) (Tr.ite (nM q (y (ah (au 0 j 7) 6))) (Tr.req (dR j 14) (Tr.req (cM 0 0) (Tr.req (bx (au 0 j 1) 14) (Tr.ok (Ex.normal,Z0,{ lock:=false,bs:=[Z2,(0,ak.row (Row.M [aL.arr .i64 (iw m (au 0 j 1) (Int.ofNat 1)) 14])),Z1] } :: H))))) (Tr.ok (Ex.normal,Z0,{ lock:=false,bs:=[Z2,(0,ak.row (Row.M [aL.arr .i64 m 14])),Z1] } :: H))) (Tr.ok (Ex.normal,Z0,{ lock:=false,bs:=[Z2,(0,ak.row (Row.M [aL.arr .i64 m 14])),Z1] } :: H))))))))))) (Tr.ok (Ex.exit 0,[(1,AV.int .i64 q,none),(4,AV.ptr 0 0 0 0,none),(5,AV.ptr 0 1 0 0,none),(12,aG 7 l y,none),(13,AV.int .i64 (Int.ofNat l),none),(14,AV.int .i64 j,none),(15,AV.bool false,some 1)],{ lock:=false,bs:=[Z2,(0,ak.row (Row.M [aL.arr .i64 m 14]))] } :: H))) (0,ak.row (Row.M [aL.arr .i64 (fun x=>Int.ofNat 0) 14])))) (0,ak.row (Row.I .i64 [y (au 0 j 7),y (ah (au 0 j 7) 1),y (ah (au 0 j 7) 2),y (ah (au 0 j 7) 3),y (ah (au 0 j 7) 4),y (ah (au 0 j 7) 5),y (ah (au 0 j 7) 6)])))) [(1,AV.int .i64 q,none),(4,AV.ptr 0 0 0 0,none),(5,AV.ptr 0 1 0 0,none),(12,aG 7 l y,none),(13,AV.int .i64 (Int.ofNat l),none),(14,AV.int .i64 (aK .i64 j (Int.ofNat 1)),none)]:=by kernel_rfl
def wX (z:Nat→Int) (q:Int) (j:Nat):Bool:=decide (cq z j≤q) && decide (q≤bE z j)
def jI (z:Nat→Int) (q:Int) (k i:Nat):Int:=if i<k∧wX z q i=true then 1 else 0
theorem RV:∀ b,(0,b) ∈ bc (bZ Tryz.f56)→b=.loop (part Tryz.f56 [1,1,1,0,1,0,0]):=jj (by kernel_rfl)
section
variable (n:Nat) (l:Nat) (z:Nat→Int) (H:aa) (q:Int)
theorem TY (h:bh l z=0):exec (bp (n+1) 56 26) (.block 0 (.loop (part Tryz.f56 [1,1,1,0,1,0,0]))) (yD l (oY z l) q 0) (zn (fK (fun x=>Int.ofNat 0) 0 (fun x=>Int.ofNat 0) 14)::H)=some (.normal,yD l (oY z l) q (Int.ofNat l)++[(15,.bool false)],zn (jI z q l)::H):=by
 obtain ⟨hl,hb⟩:=bM h
 have h0:fK (fun x=>Int.ofNat 0) 0 (fun x=>Int.ofNat 0) 14=jI z q 0:=by
  rw[jR];funext i;unfold qk jI;simp
 rw[h0]
 have:=j9 (n:=n+1) (f:=56) (nt:=26) (c:=part Tryz.f56 [1,1,1,0,1,0,0]) 0 (fun j=>yD l (oY z l) q (j:Int)) (fun j=>zn (jI z q j)::H) l (yD l (oY z l) q (Int.ofNat l)++[(15,.bool false)],zn (jI z q l)::H) (by omega) (fun j hj=>?_) ?_
 · exact this
 · have ej:aK .i64 (j:Int) (Int.ofNat 1)=((j+1:Nat):Int):=by rw[bH,show Int.ofNat 1=1 from rfl];exact cr (by omega) (by omega)
   have ei:au 0 (j:Int) 7=j*7:=by rw[bB];omega
   have ei1:au 0 (j:Int) 1=j:=by rw[bB];omega
   have e6:j*7+5+1=j*7+6:=rfl
   have h5:oY z l (j*7+5)=cq z j:=nU z (by omega) (by omega)
   have h6:oY z l (j*7+6)=bE z j:=nU z (by omega) (by omega)
   have hu:wX z q j=true→iw (jI z q j) j (Int.ofNat 1)=jI z q (j+1):=fun hd=>by
    rw[j5];funext i
    unfold jI
    by_cases e:i=j
    · subst e;simp[hd]
    · simp[e,show i<j+1↔i<j by omega]
   have hn:wX z q j=false→jI z q j=jI z q (j+1):=fun hd=>by
    funext i
    unfold jI
    by_cases e:i=j
    · subst e;simp[hd]
    · simp[show i<j+1↔i<j by omega]
   have hd:wX z q j=(decide (cq z j≤q) && decide (q≤bE z j)):=rfl
   refine aD (t56 n l (oY z l) (jI z q j) H q (j:Int)) (dO n 1) (af _ _) (ag _ _) ?_
   simp only[ei,aU,e6]
   rw[h5,h6,ej,ei1]
   cases hx:wX z q j with
   | true =>
     have hx':=hx
     rw[hd,Bool.and_eq_true,decide_eq_true_eq,decide_eq_true_eq] at hx'
     rw[hu hx]
     generalize cq z j=lo at *
     generalize bE z j=hi at *
     exact wF
   | false =>
     have hx':=hx
     rw[hd,Bool.and_eq_false_iff,decide_eq_false_iff_not,decide_eq_false_iff_not] at hx'
     have hn:=hn hx
     generalize jI z q (j+1)=m' at *
     subst hn
     generalize cq z j=lo at *
     generalize bE z j=hi at *
     exact wF
 · obtain ⟨x,h1,rfl⟩:=aD (Q:=fun x=>x=(.exit 0,yD l (oY z l) q (Int.ofNat l)++[(15,.bool false)],zn (jI z q l)::H)) (t56 n l (oY z l) (jI z q l) H q (Int.ofNat l)) (dO n 1) (af _ _) (ag _ _) (by
    exact wF)
   exact h1
end
end Go.Eng
end
section
namespace Go.Eng
open Go.Proofs
theorem ny (L:List Int) (v:Int):iE (fE (aB L) 0) L.length (aB [v])=aB (L++[v]):=by
 rw[c9,jN,lL];funext i
 by_cases h:i<L.length
 · simp[h,List.getElem?_append]
 · by_cases h2:i=L.length
   · subst h2;simp
   · have e1:[v][i-L.length]?=none:=List.getElem?_eq_none (by simp;omega)
     have e2:(L++[v])[i]?=none:=List.getElem?_eq_none (by simp;omega)
     simp only[h,if_false,List.getD_eq_getElem?_getD,e1,e2]
def dl (m:Nat→Int):Nat→List Int
 | 0=>[]
 | j+1=>if m j=1 then dl m j++[(j:Int)] else dl m j
theorem s7 (m:Nat→Int) (j:Nat):(dl m j).length≤j:=by
 induction j with
 | zero=>simp[dl]
 | succ j ih =>
   unfold dl
   split
   · rw[List.length_append];simp only[List.length_cons,List.length_nil];omega
   · omega
noncomputable def dV:List Int→AV
 | []=>.nils
 | a::r=>.slc 0 0 0 0 1 (r.length+1) none
section
variable (n:Nat) (m:Nat→Int) (H:aa)
end
noncomputable def dA:List Int→AV
 | []=>.nils
 | a::r=>.slcT none (.M [.arr .i64 (aB (a::r)) (r.length+1)]) 1 (r.length+1) false
section
variable (n:Nat) (l:Nat) (z:Nat→Int) (H:aa) (q:Int)
end
end Go.Eng
end
section
namespace Go.Eng
open Go.Proofs
noncomputable abbrev bD (n:Nat) (z:Nat→Int) (full:Bool):AV:=.slcT none (.M [.arr .i64 z n]) 1 n full
noncomputable def OQ (m p:Nat) (z y:Nat→Int) (a b:Bool) (j:Int):ay:=[(0,bD m z a),(1,bD p y b),(5,.int .i64 j)]
theorem t22 (n:Nat) (H:aa) (m p:Nat) (z y:Nat→Int) (a b:Bool) (j:Int):aN (bp n 22 26) (il aR n 0) aW aX (part Tryz.f22 [1,1,0,1,0,0]) (hints (OQ m p z y a b j)) (aC::H) =
 Tr.ite (df j (Int.ofNat m)) (Tr.req (dR j m) (Tr.req (bx (au 0 j 1) m) (Tr.req (dR j p) (Tr.req (bx (au 0 j 1) p) (Tr.ite (bG (dD (z (au 0 j 1)) (y (au 0 j 1)))) (Tr.ok (Ex.ret,[(4,AV.bool false,some 1)],aC::H)) (Tr.ok (Ex.normal,[(0,AV.slcT none (Row.M [aL.arr .i64 z m]) 1 m a,none),(1,AV.slcT none (Row.M [aL.arr .i64 y p]) 1 p b,none),(5,AV.int .i64 (aK .i64 j (Int.ofNat 1)),none)],aC::H))))))) (Tr.ok (Ex.exit 0,[(0,AV.slcT none (Row.M [aL.arr .i64 z m]) 1 m a,none),(1,AV.slcT none (Row.M [aL.arr .i64 y p]) 1 p b,none),(5,AV.int .i64 j,none),(14,AV.bool false,some 1)],aC::H)):=by kernel_rfl
noncomputable def dW:List Int→AV
 | []=>.nils
 | a::r=>.slc 0 0 r.length 0 1 (r.length+1) none
noncomputable def Lh:List Int→bm
 | []=>⟨false,[]⟩
 | a::r=>⟨false,[(r.length,.row (.M [.arr .i64 (aB (a::r)) (r.length+1)]))]⟩
section
variable (n:Nat) (l:Nat) (z:Nat→Int) (H:aa) (q:Int)
end
end Go.Eng
end
section
namespace Go.Eng
open Go.Proofs
noncomputable def UC (A:AV):List AV→Option (Prop×AV)
 | [a,b]=>some (a=A∧b=A,.bool true)
 | _=>none
def Ja:List AV→Option (Prop×AV)
 | []=>some (True,.bool true)
 | _=>none
theorem R6 (n:Nat) (H:aa):cd (n+1) (.fn 15) [] H=some (.bool true,H):=by unfold cd cH;rfl
theorem OK {n:Nat} {t:me} (ht:t.Ok (cd (n+1))):(iz t 15 Ja).Ok (cd (n+1)):=by
 refine dQ ht (fun args p v hg hp H=>?_)
 unfold Ja at hg
 split at hg
 · simp only[nP] at hg
   obtain ⟨_,rfl⟩:=hg
   exact R6 _ H
 · cases hg
section
variable (n:Nat) (l:Nat) (z:Nat→Int) (H:aa) (q s:Int)
end
end Go.Eng
end
section
namespace Go.Eng
open Go.Proofs
theorem yb {x:Int} (h0:-9223372036854775808≤x) (h1:x≤9223372036854775807):iZ .i64 x=x:=by rw[GL,cr h0 h1]
theorem xO {a b:Int} (ha:0≤a):dq .i64 a b=a % b:=by rw[CJ,Int.tmod_eq_emod_of_nonneg ha]
section
variable (n:Nat) (H:aa)
end
section
variable (n:Nat) (l:Nat) (z:Nat→Int) (H:aa)
end
end Go.Eng
end
section
namespace Go.Eng
open Go.Proofs
theorem t68 (n:Nat) (H:aa) (m:Nat) (z:Nat→Int) (full:Bool) (bs:List (Nat×ak)):aN (bp n 68 8) (il aR n 0) aW aX (bZ Tryz.f68) (hints [(0,bD m z full)]) (aC::⟨false,bs⟩::H) =
 Tr.req (bx 0 m) (Tr.ite false (Tr.ok (Ex.ret,[(2,AV.nils,none)],aC::{ lock:=false,bs:=bs } :: H)) (Tr.ite (cM m 0) (Tr.ok (Ex.ret,[(2,AV.slc 0 0 0 0 1 0 (some 0),none)],{ lock:=false,bs:=[(0,ak.row (Row.I .i64 []))] } :: { lock:=false,bs:=bs } :: H)) (Tr.req (dJ 0 m 8) (Tr.req (fA m m) (Tr.req (fA (ah 0 m) m) (Tr.ite (bx 0 (ah 0 m)) (Tr.req (cM 0 0) (Tr.req (fA 0 0) (Tr.ok (Ex.ret,[(2,AV.slc 0 1 0 0 1 (ah 0 m) none,none)],{ lock:=false,bs:=[(0,ak.row (Row.I .i64 [])),(0,ak.row (Row.M [aL.arr .i64 (iE (aB []) 0 z) (ah 0 m)]))] } :: { lock:=false,bs:=bs } :: H)))) (Tr.req (cM 0 0) Tr.bad))))))):=by kernel_rfl
theorem G3 (z:Nat→Int):iE (aB []) 0 z=z:=by rw[jN];funext i;simp
theorem Ke {n:Nat} {args:List AV} {l1:bm} {H:aa} {fn:Func} {c:Code} (hf:Tryz.prog.funcs[68]?=some fn) (hb:fn.body=some c) (hle:Nat.ble args.length fn.ntmps=true) {e:Ex} {fr:ay} {l:bm} {j ver off sz len:Nat} {cap:Option Nat} {q:Row}
 (h:exec (bp n 68 fn.ntmps) c (dv 0 args) (⟨false,[]⟩::l1::H)=some (e,fr,l::l1::H)) (he:e=.normal∨e=.ret) (hv:eE Tryz.prog fr (l::l1::H) fn.results.toList=some [.slc 0 j ver off sz len cap]) (hq:dc (l::l1::H) 0 j ver=some q) (h0:l.lock=false) (h1:l1.lock=false) :
 cd (n+1) (.fn 68) args (l1::H)=some (.slc 0 l1.bs.length 0 off sz len cap,bt (l1::H) 0 (.row (jH 1 q))):=by
 have:mg (cd n) 68 args (l1::H)=some (.slc 0 l1.bs.length 0 off sz len cap,bt (l1::H) 0 (.row (jH 1 q))):=by
  show wb Tryz.prog KtB.kt 100000 68 (cd n) args (l1::H)=_
  unfold wb
  rw[hf];dsimp only
  rw[hb];dsimp only
  rw[if_pos hle,dk]
  rw[show exec (⟨Tryz.prog,cd n,100000,68,fn.ntmps,KtB.kt 68,none⟩:Cx) c (dv 0 args) (⟨false,[]⟩::l1::H)=_ from h]
  dsimp only
  rcases he with rfl | rfl<;>(simp only[hv,hq,h0,h1,Bool.or_self,Bool.false_eq_true,if_false])
 unfold cd
 rw[show cH Tryz.prog mg KtB.kt 100000 (n+1) (.fn 68) args (l1::H)=(match mg (cd n) 68 args (l1::H) with
  | some r=>some r
  | none=>_) from rfl,this]
theorem Sf (n:Nat) (H:aa) (m:Nat) (z:Nat→Int) (full:Bool) (bs:List (Nat×ak)) (h1:1≤m) (h2:m≤1000):cd (n+1) (.fn 68) [bD m z full] (⟨false,bs⟩::H)=some (.slc 0 bs.length 0 0 1 m none,⟨false,bs++[(0,.row (.M [.arr .i64 z m]))]⟩::H):=by
 obtain ⟨x,hx,hy⟩:=aD (Q:=fun x=>x=(.ret,[(2,.slc 0 1 0 0 1 m none)],(⟨false,[(0,.row (.I .i64 [])),(0,.row (.M [.arr .i64 z m]))]⟩:bm)::⟨false,bs⟩::H)) (fr:=[(0,bD m z full)]) (t68 n H m z full bs) (aI n) (af _ _) (ag _ _) (by
  rw[G3,show ah 0 m=m by rw[aU,Nat.zero_add]]
  exact wF)
 subst hy
 have e8:Tryz.f68.ntmps=8:=by kernel_rfl
 have eb:Tryz.f68.body=some (bZ Tryz.f68):=by kernel_rfl
 have er:Tryz.f68.results.toList=[.tmp 2]:=by kernel_rfl
 refine Ke (fn:=Tryz.f68) (c:=bZ Tryz.f68) (l1:=⟨false,bs⟩) Tryz.func68 eb (by rw[e8];rfl) (e:=.ret) (fr:=[(2,.slc 0 1 0 0 1 m none)]) (l:=⟨false,[(0,.row (.I .i64 [])),(0,.row (.M [.arr .i64 z m]))]⟩) (j:=1) (ver:=0) (q:=.M [.arr .i64 z m]) (by rw[e8];exact hx) (.inr rfl) (by rw[er];rfl) rfl rfl rfl
end Go.Eng
end
section
namespace Go.Eng
open Go.Proofs
noncomputable def mK (L:AV) (l:Nat) (y:Nat→Int) (j:Int):ay:=[(3,L),(9,aG 7 l y),(10,.int .i64 (Int.ofNat l)),(11,.int .i64 j)]
theorem Nq (n:Nat) (l:Nat) (y:Nat→Int) (H:aa) (j:Int):aN (bp (n+3) 64 24) (il aR (n+1) 2) aW aX (part Tryz.f64 [1,1,0,1,0,0]) (hints (mK .nils l y j)) (aC::H) =
 (fun (Z0:Nat×ak)=>Tr.ite (df j (Int.ofNat l)) (Tr.req (dR j l) (Tr.req (bx (au 0 j 7) (aq l 7)) (Tr.req (bx (ah (au 0 j 7) 1) (aq l 7)) (Tr.req (bx (ah (au 0 j 7) 2) (aq l 7)) (Tr.req (bx (ah (au 0 j 7) 3) (aq l 7)) (Tr.req (bx (ah (au 0 j 7) 4) (aq l 7)) (Tr.req (bx (ah (au 0 j 7) 5) (aq l 7)) (Tr.req (bx (ah (au 0 j 7) 6) (aq l 7)) (Tr.ite (nM (y (ah (au 0 j 7) 5)) (y (ah (au 0 j 7) 6))) (Tr.req (dJ 0 1 8) (Tr.req (cM 0 0) (Tr.req (fA 1 1) (Tr.ok (Ex.normal,[(3,AV.slc 0 2 0 0 1 1 none,none),(9,aG 7 l y,none),(10,AV.int .i64 (Int.ofNat l),none),(11,AV.int .i64 (aK .i64 j (Int.ofNat 1)),none)],{ lock:=false,bs:=[Z0,(0,ak.row (Row.I .i64 [j])),(0,ak.row (Row.M [aL.arr .i64 (aB [j]) 1]))] } :: H))))) (Tr.ok (Ex.normal,[(3,AV.nils,none),(9,aG 7 l y,none),(10,AV.int .i64 (Int.ofNat l),none),(11,AV.int .i64 (aK .i64 j (Int.ofNat 1)),none)],{ lock:=false,bs:=[Z0] } :: H))))))))))) (Tr.ok (Ex.exit 0,[(3,AV.nils,none),(9,aG 7 l y,none),(10,AV.int .i64 (Int.ofNat l),none),(11,AV.int .i64 j,none),(12,AV.bool false,some 1)],aC::H))) (0,ak.row (Row.I .i64 [y (au 0 j 7),y (ah (au 0 j 7) 1),y (ah (au 0 j 7) 2),y (ah (au 0 j 7) 3),y (ah (au 0 j 7) 4),y (ah (au 0 j 7) 5),y (ah (au 0 j 7) 6)])):=by kernel_rfl
theorem Nr (n:Nat) (l:Nat) (y g:Nat→Int) (H:aa) (j:Int) (v k:Nat):aN (bp (n+3) 64 24) (il aR (n+1) 2) aW aX (part Tryz.f64 [1,1,0,1,0,0]) (hints (mK (.slc 0 0 v 0 1 k none) l y j)) (⟨false,[(v,.row (.M [.arr .i64 g k]))]⟩::H) =
 (fun (Z0:Nat×ak)=>Tr.ite (df j (Int.ofNat l)) (Tr.req (dR j l) (Tr.req (bx (au 0 j 7) (aq l 7)) (Tr.req (bx (ah (au 0 j 7) 1) (aq l 7)) (Tr.req (bx (ah (au 0 j 7) 2) (aq l 7)) (Tr.req (bx (ah (au 0 j 7) 3) (aq l 7)) (Tr.req (bx (ah (au 0 j 7) 4) (aq l 7)) (Tr.req (bx (ah (au 0 j 7) 5) (aq l 7)) (Tr.req (bx (ah (au 0 j 7) 6) (aq l 7)) (Tr.ite (nM (y (ah (au 0 j 7) 5)) (y (ah (au 0 j 7) 6))) (Tr.req (dJ k 1 8) (Tr.req (cM 0 0) (Tr.req (fA 1 1) (Tr.req (cM v v) (Tr.req (cM (ah 0 k) k) (Tr.ok (Ex.normal,[(3,AV.slc 0 0 (Nat.succ v) 0 1 (ah k 1) none,none),(9,aG 7 l y,none),(10,AV.int .i64 (Int.ofNat l),none),(11,AV.int .i64 (aK .i64 j (Int.ofNat 1)),none)],{ lock:=false,bs:=[(Nat.succ v,ak.row (Row.M [aL.arr .i64 (iE (fE g 0) k (aB [j])) (ah k 1)])),Z0,(0,ak.row (Row.I .i64 [j]))] } :: H))))))) (Tr.ok (Ex.normal,[(3,AV.slc 0 0 v 0 1 k none,none),(9,aG 7 l y,none),(10,AV.int .i64 (Int.ofNat l),none),(11,AV.int .i64 (aK .i64 j (Int.ofNat 1)),none)],{ lock:=false,bs:=[(v,ak.row (Row.M [aL.arr .i64 g k])),Z0] } :: H))))))))))) (Tr.ok (Ex.exit 0,[(3,AV.slc 0 0 v 0 1 k none,none),(9,aG 7 l y,none),(10,AV.int .i64 (Int.ofNat l),none),(11,AV.int .i64 j,none),(12,AV.bool false,some 1)],{ lock:=false,bs:=[(v,ak.row (Row.M [aL.arr .i64 g k]))] } :: H))) (0,ak.row (Row.I .i64 [y (au 0 j 7),y (ah (au 0 j 7) 1),y (ah (au 0 j 7) 2),y (ah (au 0 j 7) 3),y (ah (au 0 j 7) 4),y (ah (au 0 j 7) 5),y (ah (au 0 j 7) 6)])):=by kernel_rfl
theorem Rc (n:Nat) (l:Nat) (y:Nat→Int) (H:aa):bu Tryz.prog (cd (n+3)) 100000 64 Tryz.f64 (KtB.kt 64) (il aR (n+1) 2) (eP aW 0 (mK .nils l y 0) (aC::H) (.ok (.normal,hints (mK .nils l y (Int.ofNat l)++[(12,.bool false)]),aC::H))) aX [(.ptrT (some 0) (.G [aG 7 l y]) 0,none)] H =
 (fun (Z0:ay)=>Tr.reqP (Z0=Z0∧aC::H=aC::H) (Tr.ok ((AV.nils,none),H))) [(3,AV.nils),(9,aG 7 l y),(10,AV.int .i64 (Int.ofNat l)),(11,AV.int .i64 (Int.ofNat 0))]:=by kernel_rfl
theorem Re (n:Nat) (l:Nat) (y g:Nat→Int) (H:aa) (v k:Nat):bu Tryz.prog (cd (n+3)) 100000 64 Tryz.f64 (KtB.kt 64) (il aR (n+1) 2) (eP aW 0 (mK .nils l y 0) (aC::H) (.ok (.normal,hints (mK (.slc 0 0 v 0 1 k none) l y (Int.ofNat l)++[(12,.bool false)]),⟨false,[(v,.row (.M [.arr .i64 g k]))]⟩::H))) aX [(.ptrT (some 0) (.G [aG 7 l y]) 0,none)] H =
 (fun (Z0:ay)=>Tr.reqP (Z0=Z0∧aC::H=aC::H) (Tr.req (cM v v) (Tr.req (la 0 k 0 k) (Tr.ok ((AV.slcT none (Row.M [aL.arr .i64 (fE g 0) k]) 1 k false,none),H))))) [(3,AV.nils),(9,aG 7 l y),(10,AV.int .i64 (Int.ofNat l)),(11,AV.int .i64 (Int.ofNat 0))]:=by kernel_rfl
theorem Q8 (n:Nat) (l:Nat) (z y:Nat→Int) (H:aa):bu Tryz.prog (cd (n+11)) 100000 62 Tryz.f62 (KtB.kt 62) (il (iz (iz aR 52 (gO (aG 5 l z) (.tup [.ptrT (some 0) (.G [aG 7 l y]) 0,.int .i64 0]))) 64 (gO (.ptrT (some 0) (.G [aG 7 l y]) 0) .nils)) (n+10) 1) aW aX [(aG 5 l z,none)] H =
 Tr.reqP (aG 5 l z=aG 5 l z) (Tr.ite (bG (dD (Int.ofNat 0) (Int.ofNat 0))) (Tr.ok ((AV.tup [AV.nilp,AV.int .i64 (Int.ofNat 0)],none),H)) (Tr.reqP (AV.ptrT (some 0) (Row.G [aG 7 l y]) 0=AV.ptrT (some 0) (Row.G [aG 7 l y]) 0) (Tr.ite (df (Int.ofNat 0) (Int.ofNat l)) (Tr.ok ((AV.tup [AV.nilp,AV.int .i64 (Int.ofNat 22)],none),H)) (Tr.ok ((AV.tup [AV.ptrT (some 0) (Row.G [aG 7 l y]) 0,AV.int .i64 (Int.ofNat 0)],none),H))))):=by kernel_rfl
theorem Q7 (n:Nat) (l:Nat) (z y g:Nat→Int) (H:aa) (k:Nat):bu Tryz.prog (cd (n+11)) 100000 62 Tryz.f62 (KtB.kt 62) (il (iz (iz aR 52 (gO (aG 5 l z) (.tup [.ptrT (some 0) (.G [aG 7 l y]) 0,.int .i64 0]))) 64 (gO (.ptrT (some 0) (.G [aG 7 l y]) 0) (bD k g false))) (n+10) 1) aW aX [(aG 5 l z,none)] H =
 Tr.reqP (aG 5 l z=aG 5 l z) (Tr.ite (bG (dD (Int.ofNat 0) (Int.ofNat 0))) (Tr.ok ((AV.tup [AV.nilp,AV.int .i64 (Int.ofNat 0)],none),H)) (Tr.reqP (AV.ptrT (some 0) (Row.G [aG 7 l y]) 0=AV.ptrT (some 0) (Row.G [aG 7 l y]) 0) (Tr.ite (df (Int.ofNat k) (Int.ofNat l)) (Tr.ok ((AV.tup [AV.nilp,AV.int .i64 (Int.ofNat 22)],none),H)) (Tr.ok ((AV.tup [AV.ptrT (some 0) (Row.G [aG 7 l y]) 0,AV.int .i64 (Int.ofNat 0)],none),H))))):=by kernel_rfl
theorem Q9 (n:Nat) (l:Nat) (z y g:Nat→Int) (H:aa) (e:Int):bu Tryz.prog (cd (n+11)) 100000 62 Tryz.f62 (KtB.kt 62) (il (iz (iz aR 52 (gO (aG 5 l z) (.tup [.nilp,.int .i64 e]))) 64 (fun _=>none)) (n+10) 1) aW aX [(aG 5 l z,none)] H =
 Tr.reqP (aG 5 l z=aG 5 l z) (Tr.ite (bG (dD e (Int.ofNat 0))) (Tr.ok ((AV.tup [AV.nilp,AV.int .i64 e],none),H)) Tr.bad):=by kernel_rfl
def gK (z:Nat→Int) (i:Nat):Int:=if cq z i≤bE z i then 1 else 0
theorem N8:∀ b,(0,b) ∈ bc (bZ Tryz.f64)→b=.loop (part Tryz.f64 [1,1,0,1,0,0]):=jj (by kernel_rfl)
section
variable (n:Nat) (l:Nat) (z:Nat→Int) (H:aa)
theorem RP (h:bh l z=0):exec (bp (n+3) 64 24) (.block 0 (.loop (part Tryz.f64 [1,1,0,1,0,0]))) (mK .nils l (oY z l) 0) (aC::H)=some (.normal,mK (dW (dl (gK z) l)) l (oY z l) (Int.ofNat l)++[(12,.bool false)],Lh (dl (gK z) l)::H):=by
 obtain ⟨hl,hb⟩:=bM h
 have:=j9 (n:=n+3) (f:=64) (nt:=24) (c:=part Tryz.f64 [1,1,0,1,0,0]) 0 (fun j=>mK (dW (dl (gK z) j)) l (oY z l) (j:Int)) (fun j=>Lh (dl (gK z) j)::H) l (mK (dW (dl (gK z) l)) l (oY z l) (Int.ofNat l)++[(12,.bool false)],Lh (dl (gK z) l)::H) (by omega) (fun j hj=>?_) ?_
 · exact this
 · have ej:aK .i64 (j:Int) (Int.ofNat 1)=((j+1:Nat):Int):=by rw[bH,show Int.ofNat 1=1 from rfl];exact cr (by omega) (by omega)
   have ei:au 0 (j:Int) 7=j*7:=by rw[bB];omega
   have hm:=s7 (gK z) j
   have hd:dl (gK z) (j+1)=if gK z j=1 then dl (gK z) j++[(j:Int)] else dl (gK z) j:=rfl
   have ht:gK z j=1↔cq z j≤bE z j:=by unfold gK;simp
   have h5:oY z l (j*7+5)=cq z j:=nU z (by omega) (by omega)
   have h6:oY z l (j*7+6)=bE z j:=nU z (by omega) (by omega)
   cases e:dl (gK z) j with
   | nil =>
     rw[e] at hd
     refine aD (Nq n l (oY z l) H (j:Int)) (dO (n+1) 2) (af _ _) (ag _ _) ?_
     simp only[ei,aU]
     rw[ej,h5,h6]
     generalize cq z j=lo at *
     generalize bE z j=hi at *
     generalize dl (gK z) (j+1)=D at *
     generalize gK z j=mj at *
     repeat' first | (refine Tr.al (fun hc=>?_) (fun hc=>?_)<;>(try simp (disch:=omega) only[nV,nW] at hc)<;>try omega) | (refine Tr.a8 ?_ ?_;· (try simp (disch:=omega) only[nV,nW]);try omega) | (refine Tr.aw ?_ ?_;· first | exact trivial | rfl | exact ⟨rfl,rfl⟩ | exact ⟨rfl,rfl,rfl⟩ | (simp (disch:=omega) only[nV,nW];done) | ((try simp (disch:=omega) only[nV,nW]);omega)) | fail
     all_goals first
      | (rw[if_pos (by omega)] at hd;subst hd;exact Tr.av ⟨rfl,rfl⟩)
      | (rw[if_neg (by omega)] at hd;subst hd;exact Tr.av ⟨rfl,rfl⟩)
      | fail
   | cons a r =>
     rw[e] at hd hm
     have e1:=ny (a::r) (j:Int)
     simp only[List.length_cons] at hm e1
     have e3:ah (r.length+1) 1=r.length+1+1:=by rw[aU]
     refine aD (Nr n l (oY z l) (aB (a::r)) H (j:Int) r.length (r.length+1)) (dO (n+1) 2) (af _ _) (ag _ _) ?_
     rw[e1,e3]
     simp only[ei,aU]
     rw[ej,h5,h6]
     generalize cq z j=lo at *
     generalize bE z j=hi at *
     generalize hD:dl (gK z) (j+1)=D at *
     generalize gK z j=mj at *
     have e4:(r++[(j:Int)]).length=r.length+1:=by simp
     repeat' first | (refine Tr.al (fun hc=>?_) (fun hc=>?_)<;>(try simp (disch:=omega) only[nV,nW] at hc)<;>try omega) | (refine Tr.a8 ?_ ?_;· (try simp (disch:=omega) only[nV,nW]);try omega) | (refine Tr.aw ?_ ?_;· first | exact trivial | rfl | exact ⟨rfl,rfl⟩ | exact ⟨rfl,rfl,rfl⟩ | (simp (disch:=omega) only[nV,nW];done) | ((try simp (disch:=omega) only[nV,nW]);omega)) | fail
     all_goals first
      | (rw[if_pos (by omega)] at hd;subst hd
         refine Tr.av ⟨rfl,?_⟩
         show _=(mK (.slc 0 0 (r++[(j:Int)]).length 0 1 ((r++[(j:Int)]).length+1) none) l (oY z l) ((j+1:Nat):Int),(⟨false,[((r++[(j:Int)]).length,.row (.M [.arr .i64 (aB (a::r++[(j:Int)])) ((r++[(j:Int)]).length+1)]))]⟩:bm)::H)
         rw[e4];rfl)
      | (rw[if_neg (by omega)] at hd;subst hd;exact Tr.av ⟨rfl,rfl⟩)
      | fail
 · cases e:dl (gK z) l with
   | nil =>
     obtain ⟨x,h1,rfl⟩:=aD (Q:=fun x=>x=(.exit 0,mK .nils l (oY z l) (Int.ofNat l)++[(12,.bool false)],aC::H)) (Nq n l (oY z l) H (Int.ofNat l)) (dO (n+1) 2) (af _ _) (ag _ _) (by
      exact wF)
     exact h1
   | cons a r =>
     obtain ⟨x,h1,rfl⟩:=aD (Q:=fun x=>x=(.exit 0,mK (.slc 0 0 r.length 0 1 (r.length+1) none) l (oY z l) (Int.ofNat l)++[(12,.bool false)],(⟨false,[(r.length,.row (.M [.arr .i64 (aB (a::r)) (r.length+1)]))]⟩:bm)::H)) (Nr n l (oY z l) (aB (a::r)) H (Int.ofNat l) r.length (r.length+1)) (dO (n+1) 2) (af _ _) (ag _ _) (by
      exact wF)
     exact h1
theorem RH (h:bh l z=0):cd (n+4) (.fn 64) [vu l z] H=some (dA (dl (gK z) l),H):=by
 have hx:=RP n l z H h
 cases e:dl (gK z) l with
 | nil =>
   rw[e] at hx
   refine ba (n:=n+3) Tryz.func64 rfl rfl rfl (Rc n l (oY z l) H) (dO (n+1) 2) (bz (af _ _) N8 (fun x h=>by rw[← Tr.ab h];simp only[gi.st,aP];exact hx)) (ag _ _) ?_
   exact wF
 | cons a r =>
   rw[e] at hx
   refine ba (n:=n+3) Tryz.func64 rfl rfl rfl (Re n l (oY z l) (aB (a::r)) H r.length (r.length+1)) (dO (n+1) 2) (bz (af _ _) N8 (fun x h=>by rw[← Tr.ab h];simp only[gi.st,aP];exact hx)) (ag _ _) ?_
   rw[c9]
   exact wF
def cg (l:Nat) (z:Nat→Int):Int:=if bh l z≠0 then bh l z else if (dl (gK z) l).length<l then 22 else 0
noncomputable def Aw (l:Nat) (z:Nat→Int):AV:=if cg l z=0 then .tup [vu l z,.int .i64 0] else .tup [.nilp,.int .i64 (cg l z)]
theorem s6 {f k:Nat} {t:me} {A V:AV} (ht:t.Ok (cd k)) (h:∀ H,cd k (.fn f) [A] H=some (V,H)):(iz t f (gO A V)).Ok (cd k):=by
 refine dQ ht (fun args p v hg hp H=>?_)
 unfold gO at hg
 split at hg
 · simp only[nP] at hg
   obtain ⟨rfl,rfl⟩:=hg
   subst hp
   exact h H
 · cases hg
theorem Sd:cd (n+12) (.fn 62) [aG 5 l z] H=some (Aw l z,H):=by
 have hc:∀ k H,cd (n+10+k) (.fn 52) [aG 5 l z] H=some (m9 l z,H):=fun k H=>by rw[show n+10+k=n+k+10 by omega];exact Oz _ l z H
 by_cases h:bh l z=0
 · have ho:m9 l z=.tup [.ptrT (some 0) (.G [aG 7 l (oY z l)]) 0,.int .i64 0]:=by unfold m9;rw[if_pos h];rfl
   rw[ho] at hc
   have hd:∀ k H,cd (n+10+k) (.fn 64) [.ptrT (some 0) (.G [aG 7 l (oY z l)]) 0] H=some (dA (dl (gK z) l),H):=fun k H=>by rw[show n+10+k=n+6+k+4 by omega];exact RH _ l z H h
   obtain ⟨hl,_⟩:=bM h
   have hw:cg l z=if (dl (gK z) l).length<l then 22 else 0:=by unfold cg;rw[if_neg (fun x=>x h)]
   unfold Aw
   cases e:dl (gK z) l with
   | nil =>
     rw[e] at hd hw
     rw[if_pos (show ([]:List Int).length<l by simp;omega)] at hw
     rw[hw,if_neg (by decide)]
     refine ba (n:=n+11) Tryz.func62 rfl rfl rfl (Q8 n l z (oY z l) H) (cP _ (n+10) 1 (fun k=>s6 (s6 (aO _) (hc k)) (hd k))) (af _ _) (ag _ _) ?_
     exact wF
   | cons a r =>
     rw[e,List.length_cons] at hw
     rw[e] at hd
     refine ba (n:=n+11) Tryz.func62 rfl rfl rfl (Q7 n l z (oY z l) (aB (a::r)) H (r.length+1)) (cP _ (n+10) 1 (fun k=>s6 (s6 (aO _) (hc k)) (hd k))) (af _ _) (ag _ _) ?_
     by_cases hx:r.length+1<l
     · rw[if_pos hx] at hw
       rw[hw,if_neg (by decide)]
       exact wF
     · rw[if_neg hx] at hw
       rw[hw,if_pos rfl]
       exact wF
 · have ho:m9 l z=.tup [.nilp,.int .i64 (bh l z)]:=by unfold m9;rw[if_neg h]
   rw[ho] at hc
   have hw:cg l z=bh l z:=by unfold cg;rw[if_pos h]
   unfold Aw
   rw[hw,if_neg h]
   refine ba (n:=n+11) Tryz.func62 rfl rfl rfl (Q9 n l z z z H (bh l z)) (cP _ (n+10) 1 (fun k=>dQ (s6 (aO _) (hc k)) (fun args p v hg hp H=>by cases hg))) (af _ _) (ag _ _) ?_
   exact wF
end
end Go.Eng
end
