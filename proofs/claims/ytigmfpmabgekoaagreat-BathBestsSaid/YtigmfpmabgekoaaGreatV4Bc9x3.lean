/- Bath: orders without one; Costs as it is defined, the trees. -/
import Derived.Test.YtigmfpmabgekoaaGreatV4Bc5x4
section
namespace Go.Eng
open Go.Proofs
set_option linter.unusedVariables false
set_option linter.unusedSimpArgs false
set_option maxRecDepth 100000
noncomputable def fr26 (l:Nat) (z:Nat→Int) (L:AV) (j:Int):Frm:=[(0,slA 5 l z),(4,L),(5,.int .i64 j)]
noncomputable def g47 (l:Nat) (z:Nat→Int) (j:Int) (V:AV):List AV→Option (Prop×AV):=fun x=>some (x=[slA 5 l z,.int .i64 j],V)
noncomputable def g66 (P:Nat→(Nat→Int)→Nat) (B:Nat→(Nat→Int)→Nat→Int) (R:Nat→(Nat→Int)→Prop):List AV→Option (Prop×AV)
 | [.slcT none (.M [.arr .i64 f n]) 5 m false]=>some (n=mulO m 5∧R m f,sl1 (P m f) (B m f) false)
 | [.slcT none (.I .i64 []) 5 0 _]=>some (True,.nils)
 | _=>none
theorem u47 (n l:Nat) (z:Nat→Int) (H:Heap) (i:Int):bodyT Tryz.prog (cd n) 100000 47 Tryz.f47 (KtB.kt 47) (il noCt n 0) noBT noRT [(slA 5 l z,none),(.int .i64 i,none)] H =
 Tr.req (bndI i l) (Tr.req (leN (addO (mulO 0 5) (mulO (toN i) 5)) (mulO l 5)) (Tr.ite (eqN (toN i) 0) (Tr.req (bndI (addI .i64 i (Int.ofNat 1)) l) (Tr.req (leN (addO (mulO (toN (addI .i64 i (Int.ofNat 1))) 5) (mulO (subO l (toN (addI .i64 i (Int.ofNat 1)))) 5)) (mulO l 5)) (Tr.ite (eqN (subO l (toN (addI .i64 i (Int.ofNat 1)))) 0) (Tr.req (eqN 0 0) (Tr.ok ((AV.slcT none (Row.I .i64 []) 5 0 (eqN 0 0),none),H))) (Tr.req (roomO 0 (subO l (toN (addI .i64 i (Int.ofNat 1)))) 40) (Tr.req (leN (subO l (toN (addI .i64 i (Int.ofNat 1)))) (subO l (toN (addI .i64 i (Int.ofNat 1))))) (Tr.req (leN (addO (mulO 0 5) (mulO (subO l (toN (addI .i64 i (Int.ofNat 1)))) 5)) (mulO (subO l (toN (addI .i64 i (Int.ofNat 1)))) 5)) (Tr.ite (ltN 0 (addO 0 (subO l (toN (addI .i64 i (Int.ofNat 1)))))) (Tr.req (eqN 0 0) (Tr.req (leN 0 0) (Tr.req (eqN 0 0) (Tr.req (inO 0 (mulO (addO 0 (subO l (toN (addI .i64 i (Int.ofNat 1))))) 5) 0 (addO 0 (mulO (subO l (toN (addI .i64 i (Int.ofNat 1)))) 5))) (Tr.ok ((AV.slcT none (Row.M [Seg.arr .i64 (shO (appO (lstO []) 0 (shO z (mulO (toN (addI .i64 i (Int.ofNat 1))) 5))) 0) (mulO (addO 0 (subO l (toN (addI .i64 i (Int.ofNat 1))))) 5)]) 5 (addO 0 (subO l (toN (addI .i64 i (Int.ofNat 1))))) false,none),H)))))) (Tr.req (eqN 0 0) Tr.bad)))))))) (Tr.req (roomO 0 (toN i) 40) (Tr.req (leN (toN i) (toN i)) (Tr.req (leN (addO (mulO 0 5) (mulO (toN i) 5)) (mulO (toN i) 5)) (Tr.ite (ltN 0 (addO 0 (toN i))) (Tr.req (eqN 0 0) (Tr.req (leN 0 0) (Tr.req (bndI (addI .i64 i (Int.ofNat 1)) l) (Tr.req (leN (addO (mulO (toN (addI .i64 i (Int.ofNat 1))) 5) (mulO (subO l (toN (addI .i64 i (Int.ofNat 1)))) 5)) (mulO l 5)) (Tr.ite (eqN (subO l (toN (addI .i64 i (Int.ofNat 1)))) 0) (Tr.req (eqN 0 0) (Tr.req (inO 0 (mulO (addO 0 (toN i)) 5) 0 (addO 0 (mulO (toN i) 5))) (Tr.ok ((AV.slcT none (Row.M [Seg.arr .i64 (shO (appO (lstO []) 0 z) 0) (mulO (addO 0 (toN i)) 5)]) 5 (addO 0 (toN i)) false,none),H)))) (Tr.req (roomO (addO 0 (toN i)) (subO l (toN (addI .i64 i (Int.ofNat 1)))) 40) (Tr.req (leN (subO l (toN (addI .i64 i (Int.ofNat 1)))) (subO l (toN (addI .i64 i (Int.ofNat 1))))) (Tr.req (leN (addO (mulO 0 5) (mulO (subO l (toN (addI .i64 i (Int.ofNat 1)))) 5)) (mulO (subO l (toN (addI .i64 i (Int.ofNat 1)))) 5)) (Tr.req (eqN 0 0) (Tr.req (eqN (addO 0 (mulO (addO 0 (toN i)) 5)) (addO 0 (mulO (toN i) 5))) (Tr.req (andB (leN 0 1) (leN 1 1)) (Tr.req (eqN 1 1) (Tr.req (inO 0 (mulO (addO (addO 0 (toN i)) (subO l (toN (addI .i64 i (Int.ofNat 1))))) 5) 0 (addO (mulO (addO 0 (toN i)) 5) (mulO (subO l (toN (addI .i64 i (Int.ofNat 1)))) 5))) (Tr.ok ((AV.slcT none (Row.M [Seg.arr .i64 (shO (appO (shO (appO (lstO []) 0 z) 0) (mulO (addO 0 (toN i)) 5) (shO z (mulO (toN (addI .i64 i (Int.ofNat 1))) 5))) 0) (mulO (addO (addO 0 (toN i)) (subO l (toN (addI .i64 i (Int.ofNat 1))))) 5)]) 5 (addO (addO 0 (toN i)) (subO l (toN (addI .i64 i (Int.ofNat 1))))) false,none),H))))))))))))))) (Tr.req (eqN 0 0) Tr.bad))))))):=by kernel_rfl
theorem t26a (n l:Nat) (z:Nat→Int) (H:Heap) (j:Int) (k:Nat) (w:Nat→Int) (P:Nat→(Nat→Int)→Nat) (B:Nat→(Nat→Int)→Nat→Int) (R:Nat→(Nat→Int)→Prop):execT (cxD n 26 34) (il (ctG (ctG noCt 47 (g47 l z j (slA 5 k w))) 66 (g66 P B R)) n 0) noBT noRT (part Tryz.f26 [1,1,1,1,0,1,0,0]) (hints (fr26 l z .nils j)) (lvE::H) =
 Tr.ite (ltI j (Int.ofNat l)) (Tr.reqP ([slA 5 l z,AV.int .i64 j]=[slA 5 l z,AV.int .i64 j]) (Tr.reqP (mulO k 5=mulO k 5∧R k w) (Tr.reqP (mulO l 5=mulO l 5∧R l z) (Tr.ite (ltI (Int.ofNat (P k w)) (Int.ofNat (P l z))) (Tr.req (roomO 0 1 8) (Tr.req (eqN 0 0) (Tr.req (leN 1 1) (Tr.ok (Ex.normal,[(0,slA 5 l z,none),(4,AV.slc 0 1 0 0 1 1 none,none),(5,AV.int .i64 (addI .i64 j (Int.ofNat 1)),none)],{ lock:=false,bs:=[(0,Blk.row (Row.I .i64 [j])),(0,Blk.row (Row.M [Seg.arr .i64 (lstO [j]) 1]))] } :: H))))) (Tr.ok (Ex.normal,[(0,slA 5 l z,none),(4,AV.nils,none),(5,AV.int .i64 (addI .i64 j (Int.ofNat 1)),none)],lvE::H)))))) (Tr.ok (Ex.exit 0,[(0,slA 5 l z,none),(4,AV.nils,none),(5,AV.int .i64 j,none),(17,AV.bool false,some 1)],lvE::H)):=by kernel_rfl
theorem t26z (n l:Nat) (z:Nat→Int) (H:Heap) (j:Int) (P:Nat→(Nat→Int)→Nat) (B:Nat→(Nat→Int)→Nat→Int) (R:Nat→(Nat→Int)→Prop):execT (cxD n 26 34) (il (ctG (ctG noCt 47 (g47 l z j (.slcT none (.I .i64 []) 5 0 true))) 66 (g66 P B R)) n 0) noBT noRT (part Tryz.f26 [1,1,1,1,0,1,0,0]) (hints (fr26 l z .nils j)) (lvE::H) =
 Tr.ite (ltI j (Int.ofNat l)) (Tr.reqP ([slA 5 l z,AV.int .i64 j]=[slA 5 l z,AV.int .i64 j]) (Tr.reqP True (Tr.reqP (mulO l 5=mulO l 5∧R l z) (Tr.ite (ltI (Int.ofNat 0) (Int.ofNat (P l z))) (Tr.req (roomO 0 1 8) (Tr.req (eqN 0 0) (Tr.req (leN 1 1) (Tr.ok (Ex.normal,[(0,slA 5 l z,none),(4,AV.slc 0 1 0 0 1 1 none,none),(5,AV.int .i64 (addI .i64 j (Int.ofNat 1)),none)],{ lock:=false,bs:=[(0,Blk.row (Row.I .i64 [j])),(0,Blk.row (Row.M [Seg.arr .i64 (lstO [j]) 1]))] } :: H))))) (Tr.ok (Ex.normal,[(0,slA 5 l z,none),(4,AV.nils,none),(5,AV.int .i64 (addI .i64 j (Int.ofNat 1)),none)],lvE::H)))))) (Tr.ok (Ex.exit 0,[(0,slA 5 l z,none),(4,AV.nils,none),(5,AV.int .i64 j,none),(17,AV.bool false,some 1)],lvE::H)):=by kernel_rfl
theorem t26b (n l:Nat) (z:Nat→Int) (H:Heap) (j:Int) (k:Nat) (w:Nat→Int) (P:Nat→(Nat→Int)→Nat) (B:Nat→(Nat→Int)→Nat→Int) (R:Nat→(Nat→Int)→Prop) (v q:Nat) (o:Nat→Int):execT (cxD n 26 34) (il (ctG (ctG noCt 47 (g47 l z j (slA 5 k w))) 66 (g66 P B R)) n 0) noBT noRT (part Tryz.f26 [1,1,1,1,0,1,0,0]) (hints (fr26 l z (.slc 0 0 v 0 1 q none) j)) (lvO v q o::H) =
 Tr.ite (ltI j (Int.ofNat l)) (Tr.reqP ([slA 5 l z,AV.int .i64 j]=[slA 5 l z,AV.int .i64 j]) (Tr.reqP (mulO k 5=mulO k 5∧R k w) (Tr.reqP (mulO l 5=mulO l 5∧R l z) (Tr.ite (ltI (Int.ofNat (P k w)) (Int.ofNat (P l z))) (Tr.req (roomO q 1 8) (Tr.req (eqN 0 0) (Tr.req (leN 1 1) (Tr.req (eqN v v) (Tr.req (eqN (addO 0 q) q) (Tr.ok (Ex.normal,[(0,slA 5 l z,none),(4,AV.slc 0 0 (Nat.succ v) 0 1 (addO q 1) none,none),(5,AV.int .i64 (addI .i64 j (Int.ofNat 1)),none)],{ lock:=false,bs:=[(Nat.succ v,Blk.row (Row.M [Seg.arr .i64 (appO (shO o 0) q (lstO [j])) (addO q 1)])),(0,Blk.row (Row.I .i64 [j]))] } :: H))))))) (Tr.ok (Ex.normal,[(0,slA 5 l z,none),(4,AV.slc 0 0 v 0 1 q none,none),(5,AV.int .i64 (addI .i64 j (Int.ofNat 1)),none)],{ lock:=false,bs:=[(v,Blk.row (Row.M [Seg.arr .i64 o q]))] } :: H)))))) (Tr.ok (Ex.exit 0,[(0,slA 5 l z,none),(4,AV.slc 0 0 v 0 1 q none,none),(5,AV.int .i64 j,none),(17,AV.bool false,some 1)],{ lock:=false,bs:=[(v,Blk.row (Row.M [Seg.arr .i64 o q]))] } :: H)):=by kernel_rfl
theorem t26x (n l:Nat) (z:Nat→Int) (H:Heap) (j:Int):execT (cxD n 26 34) (il noCt n 0) noBT noRT (part Tryz.f26 [1,1,1,1,0,1,0,0]) (hints (fr26 l z .nils j)) (lvE::H) =
 Tr.ite (ltI j (Int.ofNat l)) Tr.bad (Tr.ok (Ex.exit 0,[(0,slA 5 l z,none),(4,AV.nils,none),(5,AV.int .i64 j,none),(17,AV.bool false,some 1)],lvE::H)):=by kernel_rfl
theorem t26y (n l:Nat) (z:Nat→Int) (H:Heap) (j:Int) (v q:Nat) (o:Nat→Int):execT (cxD n 26 34) (il noCt n 0) noBT noRT (part Tryz.f26 [1,1,1,1,0,1,0,0]) (hints (fr26 l z (.slc 0 0 v 0 1 q none) j)) (lvO v q o::H) =
 Tr.ite (ltI j (Int.ofNat l)) Tr.bad (Tr.ok (Ex.exit 0,[(0,slA 5 l z,none),(4,AV.slc 0 0 v 0 1 q none,none),(5,AV.int .i64 j,none),(17,AV.bool false,some 1)],{ lock:=false,bs:=[(v,Blk.row (Row.M [Seg.arr .i64 o q]))] } :: H)):=by kernel_rfl
theorem u26x (n l:Nat) (z:Nat→Int) (H:Heap) (e:Int):bodyT Tryz.prog (cd n) 100000 26 Tryz.f26 (KtB.kt 26) (il (ctG noCt 21 (gO (slA 5 l z) (.int .i64 e))) n 0) (stopB noBT 0) noRT [(slA 5 l z,none)] H =
 Tr.reqP (slA 5 l z=slA 5 l z) (Tr.ite (notB (eqI e (Int.ofNat 0))) (Tr.reqP (slA 5 l z=slA 5 l z) (Tr.ok ((AV.tup [AV.nils,AV.int .i64 e],none),H))) Tr.bad):=by kernel_rfl
theorem u26y (n l:Nat) (z:Nat→Int) (H:Heap):bodyT Tryz.prog (cd n) 100000 26 Tryz.f26 (KtB.kt 26) (il (ctG (ctG noCt 21 (gO (slA 5 l z) (.int .i64 0))) 65 (gB false (slA 5 l z))) n 0) (stopB noBT 0) noRT [(slA 5 l z,none)] H =
 Tr.reqP (slA 5 l z=slA 5 l z) (Tr.ite (notB (eqI (Int.ofNat 0) (Int.ofNat 0))) (Tr.reqP (slA 5 l z=slA 5 l z) (Tr.ok ((AV.tup [AV.nils,AV.int .i64 (Int.ofNat 0)],none),H))) (Tr.reqP ([slA 5 l z]=[slA 5 l z]) (Tr.ite (notB false) (Tr.ok ((AV.tup [AV.nils,AV.int .i64 (Int.ofNat 22)],none),H)) Tr.bad))):=by kernel_rfl
theorem u26n (n l:Nat) (z:Nat→Int) (H:Heap):bodyT Tryz.prog (cd n) 100000 26 Tryz.f26 (KtB.kt 26) (il (ctG (ctG noCt 21 (gO (slA 5 l z) (.int .i64 0))) 65 (gB true (slA 5 l z))) n 0) (blkE noBT 0 (fr26 l z .nils 0) (lvE::H) (.ok (.normal,hints (fr26 l z .nils (Int.ofNat l)++[(17,.bool false)]),lvE::H))) noRT [(slA 5 l z,none)] H =
 Tr.reqP (slA 5 l z=slA 5 l z) (Tr.ite (notB (eqI (Int.ofNat 0) (Int.ofNat 0))) (Tr.reqP (slA 5 l z=slA 5 l z) (Tr.ok ((AV.tup [AV.nils,AV.int .i64 (Int.ofNat 0)],none),H))) (Tr.reqP ([slA 5 l z]=[slA 5 l z]) (Tr.ite (notB true) (Tr.ok ((AV.tup [AV.nils,AV.int .i64 (Int.ofNat 22)],none),H)) (Tr.reqP ([(0,slA 5 l z),(4,AV.nils),(5,AV.int .i64 (Int.ofNat 0))]=[(0,slA 5 l z),(4,AV.nils),(5,AV.int .i64 (Int.ofNat 0))]∧lvE::H=lvE::H) (Tr.ok ((AV.tup [AV.nils,AV.int .i64 (Int.ofNat 0)],none),H)))))):=by kernel_rfl
theorem u26o (n l:Nat) (z:Nat→Int) (H:Heap) (v q:Nat) (o:Nat→Int):bodyT Tryz.prog (cd n) 100000 26 Tryz.f26 (KtB.kt 26) (il (ctG (ctG noCt 21 (gO (slA 5 l z) (.int .i64 0))) 65 (gB true (slA 5 l z))) n 0) (blkE noBT 0 (fr26 l z .nils 0) (lvE::H) (.ok (.normal,hints (fr26 l z (.slc 0 0 v 0 1 q none) (Int.ofNat l)++[(17,.bool false)]),lvO v q o::H))) noRT [(slA 5 l z,none)] H =
 Tr.reqP (slA 5 l z=slA 5 l z) (Tr.ite (notB (eqI (Int.ofNat 0) (Int.ofNat 0))) (Tr.reqP (slA 5 l z=slA 5 l z) (Tr.ok ((AV.tup [AV.nils,AV.int .i64 (Int.ofNat 0)],none),H))) (Tr.reqP ([slA 5 l z]=[slA 5 l z]) (Tr.ite (notB true) (Tr.ok ((AV.tup [AV.nils,AV.int .i64 (Int.ofNat 22)],none),H)) (Tr.reqP ([(0,slA 5 l z),(4,AV.nils),(5,AV.int .i64 (Int.ofNat 0))]=[(0,slA 5 l z),(4,AV.nils),(5,AV.int .i64 (Int.ofNat 0))]∧lvE::H=lvE::H) (Tr.req (eqN v v) (Tr.req (inO 0 q 0 q) (Tr.ok ((AV.tup [AV.slcT none (Row.M [Seg.arr .i64 (shO o 0) q]) 1 q false,AV.int .i64 (Int.ofNat 0)],none),H)))))))):=by kernel_rfl
theorem b26:∀ b,(0,b) ∈ blocksOf (bodyOf Tryz.f26)→b=.loop (part Tryz.f26 [1,1,1,1,0,1,0,0]):=by
 have:((blocksOf (bodyOf Tryz.f26)).filter fun x=>Nat.beq x.1 0)=[(0,.loop (part Tryz.f26 [1,1,1,1,0,1,0,0]))]:=by kernel_rfl
 intro b hb
 have hm:(0,b) ∈ ((blocksOf (bodyOf Tryz.f26)).filter fun x=>Nat.beq x.1 0):=List.mem_filter.2 ⟨hb,rfl⟩
 rw[this] at hm;simpa using hm
end Go.Eng
end
section
namespace Go.Eng
open Go.Proofs
set_option linter.unusedVariables false
set_option linter.unusedSimpArgs false
set_option maxRecDepth 100000
theorem lst_map (φ:Int→Int) (L:List Int) (j:Nat) (h:j<L.length):lstO (L.map φ) j=φ (lstO L j):=by
 rw[lst_at,lst_at,List.getD_eq_getElem?_getD,List.getD_eq_getElem?_getD,List.getElem?_map,List.getElem?_eq_getElem h];rfl
section
variable (z z':Nat→Int) (φ:Int→Int)
def SameB (x:Int):Prop:=bLo z (φ x).toNat=bLo z' x.toNat∧bHi z (φ x).toNat=bHi z' x.toNat
theorem ls_map (L:List Int) (hL:∀ x ∈ L,SameB z z' φ x):∀ j,j<L.length→lsZ z (lstO (L.map φ)) j=φ (lsZ z' (lstO L) j)
 | 0,h=>lst_map φ L 0 h
 | j+1,h=>by
   have ih:=ls_map L hL j (by omega)
   obtain ⟨i,h1,h2⟩:=lsZ_in z' (lstO L) j
   have s1:=(hL _ (lst_get L (j+1) h)).2
   have s2:=(hL _ (lst_get L i (by omega))).2
   show (if bHi z (lstO (L.map φ) (j+1)).toNat<bHi z (lsZ z (lstO (L.map φ)) j).toNat then lstO (L.map φ) (j+1) else lsZ z (lstO (L.map φ)) j)=φ (if bHi z' (lstO L (j+1)).toNat<bHi z' (lsZ z' (lstO L) j).toNat then lstO L (j+1) else lsZ z' (lstO L) j)
   rw[ih,lst_map φ L _ h,s1,h2,s2]
   split<;>rfl
theorem kp_map (b:Int) (L:List Int) (hL:∀ x ∈ L,SameB z z' φ x):∀ j,j≤L.length→kpt (pB z b) (lstO (L.map φ)) j=(kpt (pB z' b) (lstO L) j).map φ
 | 0,_=>rfl
 | j+1,h=>by
   have ih:=kp_map b L hL j (by omega)
   obtain ⟨s1,s2⟩:=hL _ (lst_get L j (by omega))
   have e:pB z b (φ (lstO L j))=pB z' b (lstO L j):=by unfold pB dnB;rw[s1,s2]
   show (if pB z b (lstO (L.map φ) j)=true then kpt (pB z b) (lstO (L.map φ)) j else kpt (pB z b) (lstO (L.map φ)) j++[lstO (L.map φ) j])=(if pB z' b (lstO L j)=true then kpt (pB z' b) (lstO L) j else kpt (pB z' b) (lstO L) j++[lstO L j]).map φ
   rw[ih,lst_map φ L _ (by omega),e]
   split
   · rfl
   · simp
theorem bs_map:∀ (k:Nat) (L:List Int),(∀ x ∈ L,SameB z z' φ x)→bsS z k (L.map φ)=(bsS z' k L).map (fun p=>(p.1,φ p.2))
 | 0,L,_=>by cases L<;>rfl
 | k+1,[],_=>rfl
 | k+1,a::r,hL=>by
   have e1:=ls_map z z' φ (a::r) hL r.length (by simp)
   obtain ⟨i,h1,h2⟩:=lsZ_in z' (lstO (a::r)) r.length
   have s:=(hL _ (lst_get (a::r) i (by simp;omega))).2
   have e2:bHi z (lsZ z (lstO ((a::r).map φ)) r.length).toNat=bHi z' (lsZ z' (lstO (a::r)) r.length).toNat:=by rw[e1,h2];exact s
   have e3:=kp_map z z' φ (bHi z' (lsZ z' (lstO (a::r)) r.length).toNat) (a::r) hL (r.length+1) (by simp)
   have e4:=bs_map k (kpt (pB z' (bHi z' (lsZ z' (lstO (a::r)) r.length).toNat)) (lstO (a::r)) (r.length+1)) (fun x hx=>by
    obtain ⟨j,h3,h4,_⟩:=(kp_mem _ _ _ x).1 hx
    rw[← h4];exact hL _ (lst_get (a::r) j (by simpa using h3)))
   show (bHi z (lsZ z (lstO ((a::r).map φ)) (r.map φ).length).toNat,lsZ z (lstO ((a::r).map φ)) (r.map φ).length)::bsS z k (kpt (pB z (bHi z (lsZ z (lstO ((a::r).map φ)) (r.map φ).length).toNat)) (lstO ((a::r).map φ)) ((r.map φ).length+1))=(bHi z' (lsZ z' (lstO (a::r)) r.length).toNat,φ (lsZ z' (lstO (a::r)) r.length))::(bsS z' k (kpt (pB z' (bHi z' (lsZ z' (lstO (a::r)) r.length).toNat)) (lstO (a::r)) (r.length+1))).map (fun p=>(p.1,φ p.2))
   rw[List.length_map,e2,e3,e4,e1]
theorem fw_map (L:List Int) (hL:∀ x ∈ L,SameB z z' φ x):fwP z (L.map φ)=(fwP z' L).map (fun p=>(p.1,φ p.2)):=by
 unfold fwP;rw[List.length_map];exact bs_map z z' φ _ L hL
end
def wZ (l:Nat) (z:Nat→Int) (j x:Nat):Int:=if x<j*5∨j+1=l then z x else z (x+5)
theorem wZ_at (l:Nat) (z:Nat→Int) (j i c:Nat) (hc:c<5) (hi:i+1<l) (hj:j<l):wZ l z j (i*5+c)=z ((if i<j then i else i+1)*5+c):=by
 unfold wZ
 by_cases h:i<j
 · rw[if_pos (by omega),if_pos h]
 · rw[if_neg (by omega),if_neg h];congr 1;omega
def phi (j:Nat) (x:Int):Int:=if x<j then x else x+1
theorem wz_same (l:Nat) (z:Nat→Int) (j:Nat) (hj:j<l) (i:Nat) (hi:i+1<l):SameB z (wZ l z j) (phi j) (i:Int):=by
 have a:=wZ_at l z j i 0 (by omega) hi hj
 have b:=wZ_at l z j i 1 (by omega) hi hj
 have c:=wZ_at l z j i 2 (by omega) hi hj
 have d:=wZ_at l z j i 3 (by omega) hi hj
 have e:(phi j (i:Int)).toNat=if i<j then i else i+1:=by
  unfold phi
  by_cases h:i<j
  · rw[if_pos (by omega),if_pos h];omega
  · rw[if_neg (by omega),if_neg h];omega
 unfold SameB bLo bHi
 rw[e,Int.toNat_natCast]
 simp only[Nat.add_zero] at a
 exact ⟨by rw[b,d],by rw[a,c]⟩
theorem dl_phi (j:Nat):∀ l,dl (fun i=>if i=j then 0 else 1) l=(dl (fun _=>1) (if l≤j then l else l-1)).map (phi j)
 | 0=>by simp[dl]
 | l + 1=>by
   have ih:=dl_phi j l
   show (if (if l=j then (0:Int) else 1)=1 then dl (fun i=>if i=j then 0 else 1) l++[(l:Int)] else dl (fun i=>if i=j then 0 else 1) l)=_
   by_cases h:l=j
   · subst h
     rw[if_neg (by rw[if_pos rfl];decide),ih,if_pos (Nat.le_refl _),if_neg (by omega),Nat.add_sub_cancel]
   · rw[if_pos (by rw[if_neg h]),ih]
     have st:∀ k,dl (fun _=>1) (k+1)=dl (fun _=>1) k++[(k:Int)]:=fun k=>by
      show (if (1:Int)=1 then _ else _)=_
      rw[if_pos rfl]
     by_cases h2:l+1≤j
     · rw[if_pos (by omega),if_pos h2,st,List.map_append]
       congr 1
       simp[phi];omega
     · rw[if_neg (by omega),if_neg h2,show l+1-1=(l-1)+1 by omega,st,List.map_append]
       congr 1
       simp[phi]
       rw[if_neg (by omega)];omega
theorem al_one (l:Nat) (z:Nat→Int):alL l z=dl (fun _=>1) l:=dl_congr (fun i hi=>by unfold ndM;rw[nd_nil];simp)
theorem rest_phi (l:Nat) (z:Nat→Int) (j:Nat) (hj:j<l):kpt (eqP j) (lstO (alL l z)) l=(alL (l-1) (wZ l z j)).map (phi j):=by
 have h:=kp_dl (eqP j) (fun _=>1) l
 have hl:(dl (fun _=>1) l).length=l:=dl_all (fun i _=>rfl)
 rw[hl] at h
 rw[al_one,h,al_one]
 have:=dl_phi j l
 rw[if_neg (by omega)] at this
 rw[← this]
 refine dl_congr (fun i hi=>?_)
 unfold eqP
 by_cases e:i=j
 · subst e;simp
 · have:¬ ((i:Int)=(j:Int)):=by omega
   simp[e,this]
theorem rest_len (l:Nat) (z:Nat→Int) (j:Nat) (hj:j<l):(fwP z (kpt (eqP j) (lstO (alL l z)) l)).length=(fwP (wZ l z j) (alL (l-1) (wZ l z j))).length:=by
 rw[rest_phi l z j hj,fw_map z (wZ l z j) (phi j) _ (fun x hx=>by
  obtain ⟨i,rfl,h1,_⟩:=(dl_mem _ _ _).1 hx
  exact wz_same l z j hj i (by omega)),List.length_map]
theorem chk_of {l:Nat} {z:Nat→Int} (hl:1≤l∧l≤14) (h:∀ j,j<l→0≤z (j*5)∧z (j*5)≤z (j*5+1)∧z (j*5+1)≤10000∧0≤z (j*5+2)∧z (j*5+2)≤z (j*5+3)∧z (j*5+3)≤10000∧0≤z (j*5+4)∧z (j*5+4)≤100000):chkO l z=0:=by
 unfold chkO
 rw[if_neg (by omega)]
 cases he:exN (oddO z) l with
 | false=>rfl
 | true =>
   obtain ⟨j,hj,e⟩:=(exN_iff _ _).1 he
   have h1:=h j hj
   have h2:oddO z j=false:=by simp[oddO];omega
   rw[h2] at e;cases e
theorem wz_chk {l:Nat} {z:Nat→Int} (h:chkO l z=0) (j:Nat) (hj:j<l) (h2:2≤l):chkO (l-1) (wZ l z j)=0:=by
 obtain ⟨hl,hb⟩:=chk_odd h
 refine chk_of (by omega) (fun i hi=>?_)
 have a:=wZ_at l z j i 0 (by omega) (by omega) hj
 have b:=wZ_at l z j i 1 (by omega) (by omega) hj
 have c:=wZ_at l z j i 2 (by omega) (by omega) hj
 have d:=wZ_at l z j i 3 (by omega) (by omega) hj
 have e:=wZ_at l z j i 4 (by omega) (by omega) hj
 simp only[Nat.add_zero] at a
 rw[a,b,c,d,e]
 exact hb _ (by split<;>omega)
theorem wz_who {l:Nat} {z:Nat→Int} (h:∀ i,i<l→bLo z i≤bHi z i) (j:Nat) (hj:j<l):∀ i,i<l-1→bLo (wZ l z j) i≤bHi (wZ l z j) i:=fun i hi=>by
 have:=wz_same l z j hj i (by omega)
 unfold SameB at this
 rw[Int.toNat_natCast] at this
 rw[← this.1,← this.2]
 refine h _ ?_
 unfold phi;split<;>omega
end Go.Eng
end
section
namespace Go.Eng
open Go.Proofs
set_option linter.unusedVariables false
set_option linter.unusedSimpArgs false
set_option maxRecDepth 100000
noncomputable def wV (l:Nat) (z:Nat→Int) (j:Nat):AV:=if l=1 then .slcT none (.I .i64 []) 5 0 true else slA 5 (l-1) (wZ l z j)
theorem app0 (g:Nat→Int):appO (lstO []) 0 g=g:=by
 rw[appO_fn];funext i;simp
theorem mulO_1 (b:Nat):mulO 1 b=b:=by rw[mulO_eq,Nat.one_mul]
section
variable (n l:Nat) (z:Nat→Int) (H:Heap)
theorem c47 (j:Nat) (hj:j<l) (hl:l≤14):cd (n+1) (.fn 47) [slA 5 l z,.int .i64 (j:Int)] H=some (wV l z j,H):=by
 have ej:addI .i64 (j:Int) (Int.ofNat 1)=((j+1:Nat):Int):=by rw[addI_eq,show Int.ofNat 1=1 from rfl];exact wr_64 (by omega) (by omega)
 have t1:toN ((j:Nat):Int)=j:=by rw[toN_eq];rfl
 have t2:toN (((j+1:Nat):Nat):Int)=j+1:=by rw[toN_eq];rfl
 refine fn_all (n:=n) Tryz.func47 rfl rfl rfl (u47 n l z H j) (il_no0 n) (noBT_ok _ _) (noRT_ok _ _) ?_
 rw[ej,t1,t2]
 have s1:subO l (j+1)=l-(j+1):=by rw[subO_eq]
 simp only[shO_zero,s1,app0,addO_eq,Nat.zero_add]
 unfold wV
 by_cases h0:j=0
 · subst h0
   by_cases h1:l=1
   · subst h1
     rw[if_pos rfl]
     repeat' first | (refine Tr.all_ite (fun hc=>?_) (fun hc=>?_)<;>(try simp (disch:=omega) only[nV,nW] at hc)<;>try omega) | (refine Tr.all_req ?_ ?_;· (try simp (disch:=omega) only[nV,nW]);try omega) | (refine Tr.all_reqP ?_ ?_;· first | exact trivial | rfl | exact ⟨rfl,rfl⟩ | exact ⟨rfl,rfl,rfl⟩ | (simp (disch:=omega) only[nV,nW];done) | ((try simp (disch:=omega) only[nV,nW]);omega)) | fail
     all_goals first
      | (refine Tr.all_ok ⟨?_,rfl⟩
         show AV.slcT none (.I .i64 []) 5 0 (eqN 0 0)=_
         rw[beqN_self])
      | fail
   · rw[if_neg h1]
     repeat' first | (refine Tr.all_ite (fun hc=>?_) (fun hc=>?_)<;>(try simp (disch:=omega) only[nV,nW] at hc)<;>try omega) | (refine Tr.all_req ?_ ?_;· (try simp (disch:=omega) only[nV,nW]);try omega) | (refine Tr.all_reqP ?_ ?_;· first | exact trivial | rfl | exact ⟨rfl,rfl⟩ | exact ⟨rfl,rfl,rfl⟩ | (simp (disch:=omega) only[nV,nW];done) | ((try simp (disch:=omega) only[nV,nW]);omega)) | fail
     all_goals first
      | (refine Tr.all_ok ⟨?_,rfl⟩
         show AV.slcT none (.M [.arr .i64 (shO z (mulO 1 5)) (mulO (l-1) 5)]) 5 (l-1) false=.slcT none (.M [.arr .i64 (wZ l z 0) (mulO (l-1) 5)]) 5 (l-1) false
         congr 4
         rw[mulO_1,shO_eq];funext x
         unfold wZ
         rw[if_neg (by omega)];congr 1;omega)
      | fail
 · rw [if_neg (by omega)]
   by_cases h1:j+1=l
   · repeat' first | (refine Tr.all_ite (fun hc=>?_) (fun hc=>?_)<;>(try simp (disch:=omega) only[nV,nW] at hc)<;>try omega) | (refine Tr.all_req ?_ ?_;· (try simp (disch:=omega) only[nV,nW]);try omega) | (refine Tr.all_reqP ?_ ?_;· first | exact trivial | rfl | exact ⟨rfl,rfl⟩ | exact ⟨rfl,rfl,rfl⟩ | (simp (disch:=omega) only[nV,nW];done) | ((try simp (disch:=omega) only[nV,nW]);omega)) | fail
     all_goals first
      | (refine Tr.all_ok ⟨?_,rfl⟩
         show AV.slcT none (.M [.arr .i64 z (mulO j 5)]) 5 j false=.slcT none (.M [.arr .i64 (wZ l z j) (mulO (l-1) 5)]) 5 (l-1) false
         rw[show l-1=j by omega]
         congr 4
         funext x
         unfold wZ
         rw[if_pos (.inr h1)])
      | fail
   · repeat' first | (refine Tr.all_ite (fun hc=>?_) (fun hc=>?_)<;>(try simp (disch:=omega) only[nV,nW] at hc)<;>try omega) | (refine Tr.all_req ?_ ?_;· (try simp (disch:=omega) only[nV,nW]);try omega) | (refine Tr.all_reqP ?_ ?_;· first | exact trivial | rfl | exact ⟨rfl,rfl⟩ | exact ⟨rfl,rfl,rfl⟩ | (simp (disch:=omega) only[nV,nW];done) | ((try simp (disch:=omega) only[nV,nW]);omega)) | fail
     all_goals first
      | (refine Tr.all_ok ⟨?_,rfl⟩
         show AV.slcT none (.M [.arr .i64 (appO z (mulO j 5) (shO z (mulO (j+1) 5))) (mulO (j+(l-(j+1))) 5)]) 5 (j+(l-(j+1))) false=.slcT none (.M [.arr .i64 (wZ l z j) (mulO (l-1) 5)]) 5 (l-1) false
         rw[show j+(l-(j+1))=l-1 by omega]
         congr 4
         rw[appO_fn];funext x
         simp only[mulO_eq,shO_eq]
         unfold wZ
         by_cases hx:x<j*5
         · rw[if_pos hx,if_pos (.inl hx)]
         · rw[if_neg hx,if_neg (by omega)];congr 1;omega)
      | fail
def R66 (k:Nat) (f:Nat→Int):Prop:=chkO k f=0∧∀ i,i<k→bLo f i≤bHi f i
noncomputable def P66 (k:Nat) (f:Nat→Int):Nat:=(fwP f (alL k f)).length
noncomputable def B66 (k:Nat) (f:Nat→Int):Nat→Int:=lstO (fwB k f)
theorem fw_ne {l:Nat} {z:Nat→Int} (h:1≤l):∃ k,(fwP z (alL l z)).length=k+1:=by
 have:=al_len l z
 cases e:alL l z with
 | nil=>rw[e] at this;simp at this;omega
 | cons a r=>exact ⟨_,rfl⟩
theorem ct66g {k:Nat} {t:Ctr} (ht:t.Ok (cd (k+6))):(ctG t 66 (g66 P66 B66 R66)).Ok (cd (k+6)):=by
 refine ctG_ok ht (fun args p v hg hp H=>?_)
 unfold g66 at hg
 split at hg
 · rename_i f n m
   simp only[nP] at hg
   obtain ⟨rfl,rfl⟩:=hg
   obtain ⟨rfl,h1,h2⟩:=hp
   obtain ⟨hl,_⟩:=chk_odd h1
   obtain ⟨q,hq⟩:=fw_ne (z:=f) hl.1
   have:=c66 k m f H h1 h2
   rw[dA_sl _ q (by rw[List.length_map];exact hq)] at this
   unfold P66 B66
   rw[hq];exact this
 · simp only[nP] at hg
   obtain ⟨rfl,rfl⟩:=hg
   exact c66e (k+5) H _
 · cases hg
theorem ct47 {k:Nat} {t:Ctr} {l:Nat} {z:Nat→Int} {j:Int} {V:AV} (ht:t.Ok (cd k)) (h:∀ H,cd k (.fn 47) [slA 5 l z,.int .i64 j] H=some (V,H)):(ctG t 47 (g47 l z j V)).Ok (cd k):=by
 refine ctG_ok ht (fun args p v hg hp H=>?_)
 unfold g47 at hg
 simp only[nP] at hg
 obtain ⟨rfl,rfl⟩:=hg
 rw[hp];exact h H
theorem cs_rest (j:Nat) (hj:j<l):csM l z j=if P66 (l-1) (wZ l z j)<P66 l z then 1 else 0:=by
 unfold csM P66;rw[rest_len l z j hj]
theorem r26a (h:chkO l z=0) (hb:∀ i,i<l→bLo z i≤bHi z i) (j:Nat) (hj:j<l):∃ x,exec (cxD (n+6) 26 34) (part Tryz.f26 [1,1,1,1,0,1,0,0]) (fr26 l z .nils (j:Int)) (lvE::H)=some x∧x.1=.normal∧tidy 0 x.2.1 x.2.2=(fr26 l z (dW (if csM l z j=1 then [(j:Int)] else [])) ((j+1:Nat):Int),dLw (if csM l z j=1 then [(j:Int)] else [])::H):=by
 obtain ⟨hl,_⟩:=chk_odd h
 have ej:addI .i64 (j:Int) (Int.ofNat 1)=((j+1:Nat):Int):=by rw[addI_eq,show Int.ofNat 1=1 from rfl];exact wr_64 (by omega) (by omega)
 have h47:∀ H,cd (n+6) (.fn 47) [slA 5 l z,.int .i64 (j:Int)] H=some (wV l z j,H):=fun H=>c47 (n+5) l z H j hj hl.2
 have hR:R66 l z:=⟨h,hb⟩
 have hcs:=cs_rest l z j hj
 unfold wV at h47
 by_cases h1:l=1
 · rw [if_pos h1] at h47
   have e0:P66 (l-1) (wZ l z j)=0:=by rw[h1];rfl
   rw[e0] at hcs
   refine ex_all (t26z (n+6) l z H (j:Int) P66 B66 R66) (il_ok0 _ (n+6) (ct66g (ct47 (noCt_ok _) h47))) (noBT_ok _ _) (noRT_ok _ _) ?_
   rw[ej]
   generalize P66 l z=q at *
   by_cases hc:0<q
   · rw[if_pos hc] at hcs
     rw[hcs,if_pos rfl]
     repeat' first | (refine Tr.all_ite (fun hc=>?_) (fun hc=>?_)<;>(try simp (disch:=omega) only[nV,nW] at hc)<;>try omega) | (refine Tr.all_req ?_ ?_;· (try simp (disch:=omega) only[nV,nW]);try omega) | (refine Tr.all_reqP ?_ ?_;· first | exact trivial | rfl | exact ⟨rfl,rfl⟩ | exact ⟨rfl,rfl,rfl⟩ | (simp (disch:=omega) only[nV,nW];done) | ((try simp (disch:=omega) only[nV,nW]);omega)) | fail
     all_goals first
      | exact ⟨rfl,hR⟩
      | exact Tr.all_ok ⟨rfl,by kernel_rfl⟩
      | fail
   · rw[if_neg hc] at hcs
     rw[hcs,if_neg (by decide)]
     repeat' first | (refine Tr.all_ite (fun hc=>?_) (fun hc=>?_)<;>(try simp (disch:=omega) only[nV,nW] at hc)<;>try omega) | (refine Tr.all_req ?_ ?_;· (try simp (disch:=omega) only[nV,nW]);try omega) | (refine Tr.all_reqP ?_ ?_;· first | exact trivial | rfl | exact ⟨rfl,rfl⟩ | exact ⟨rfl,rfl,rfl⟩ | (simp (disch:=omega) only[nV,nW];done) | ((try simp (disch:=omega) only[nV,nW]);omega)) | fail
     all_goals first
      | exact ⟨rfl,hR⟩
      | exact Tr.all_ok ⟨rfl,by kernel_rfl⟩
      | fail
 · rw[if_neg h1] at h47
   have hR2:R66 (l-1) (wZ l z j):=⟨wz_chk h j hj (by omega),wz_who hb j hj⟩
   refine ex_all (t26a (n+6) l z H (j:Int) (l-1) (wZ l z j) P66 B66 R66) (il_ok0 _ (n+6) (ct66g (ct47 (noCt_ok _) h47))) (noBT_ok _ _) (noRT_ok _ _) ?_
   rw[ej]
   generalize P66 l z=q at *
   generalize P66 (l-1) (wZ l z j)=p at *
   by_cases hc:p<q
   · rw [if_pos hc] at hcs
     rw[hcs,if_pos rfl]
     refine Tr.all_ite (fun hc=>Tr.all_reqP rfl (Tr.all_reqP ⟨rfl,hR2⟩ (Tr.all_reqP ⟨rfl,hR⟩ ?_))) (fun hc=>?_)
     · repeat' first | (refine Tr.all_ite (fun hc=>?_) (fun hc=>?_)<;>(try simp (disch:=omega) only[nV,nW] at hc)<;>try omega) | (refine Tr.all_req ?_ ?_;· (try simp (disch:=omega) only[nV,nW]);try omega) | (refine Tr.all_reqP ?_ ?_;· first | exact trivial | rfl | exact ⟨rfl,rfl⟩ | exact ⟨rfl,rfl,rfl⟩ | (simp (disch:=omega) only[nV,nW];done) | ((try simp (disch:=omega) only[nV,nW]);omega)) | fail
       all_goals first
        | exact Tr.all_ok ⟨rfl,by kernel_rfl⟩
        | fail
     · simp (disch:=omega) only[nV,nW] at hc;omega
   · rw [if_neg hc] at hcs
     rw[hcs,if_neg (by decide)]
     refine Tr.all_ite (fun hc=>Tr.all_reqP rfl (Tr.all_reqP ⟨rfl,hR2⟩ (Tr.all_reqP ⟨rfl,hR⟩ ?_))) (fun hc=>?_)
     · repeat' first | (refine Tr.all_ite (fun hc=>?_) (fun hc=>?_)<;>(try simp (disch:=omega) only[nV,nW] at hc)<;>try omega) | (refine Tr.all_req ?_ ?_;· (try simp (disch:=omega) only[nV,nW]);try omega) | (refine Tr.all_reqP ?_ ?_;· first | exact trivial | rfl | exact ⟨rfl,rfl⟩ | exact ⟨rfl,rfl,rfl⟩ | (simp (disch:=omega) only[nV,nW];done) | ((try simp (disch:=omega) only[nV,nW]);omega)) | fail
       all_goals first
        | exact Tr.all_ok ⟨rfl,by kernel_rfl⟩
        | fail
     · simp (disch:=omega) only[nV,nW] at hc;omega
theorem r26b (h:chkO l z=0) (hb:∀ i,i<l→bLo z i≤bHi z i) (j:Nat) (hj:j<l) (h1:1≤j) (q:Nat) (hq:q≤1000) (D:List Int) (hD:D.length=q+1):∃ x,exec (cxD (n+6) 26 34) (part Tryz.f26 [1,1,1,1,0,1,0,0]) (fr26 l z (.slc 0 0 q 0 1 (q+1) none) (j:Int)) (lvO q (q+1) (lstO D)::H)=some x∧x.1=.normal∧tidy 0 x.2.1 x.2.2=(fr26 l z (if csM l z j=1 then .slc 0 0 (q+1) 0 1 (q+2) none else .slc 0 0 q 0 1 (q+1) none) ((j+1:Nat):Int),(if csM l z j=1 then lvO (q+1) (q+2) (lstO (D++[(j:Int)])) else lvO q (q+1) (lstO D))::H):=by
 obtain ⟨hl,_⟩:=chk_odd h
 have ej:addI .i64 (j:Int) (Int.ofNat 1)=((j+1:Nat):Int):=by rw[addI_eq,show Int.ofNat 1=1 from rfl];exact wr_64 (by omega) (by omega)
 have h47:∀ H,cd (n+6) (.fn 47) [slA 5 l z,.int .i64 (j:Int)] H=some (wV l z j,H):=fun H=>c47 (n+5) l z H j hj hl.2
 have hR:R66 l z:=⟨h,hb⟩
 have hcs:=cs_rest l z j hj
 unfold wV at h47
 rw[if_neg (by omega)] at h47
 have hR2:R66 (l-1) (wZ l z j):=⟨wz_chk h j hj (by omega),wz_who hb j hj⟩
 have a1:=lst_app D j
 rw[hD] at a1
 have a2:addO (q+1) 1=q+2:=by rw[addO_eq]
 refine ex_all (t26b (n+6) l z H (j:Int) (l-1) (wZ l z j) P66 B66 R66 q (q+1) (lstO D)) (il_ok0 _ (n+6) (ct66g (ct47 (noCt_ok _) h47))) (noBT_ok _ _) (noRT_ok _ _) ?_
 rw[ej,a1,a2]
 generalize P66 l z=w at *
 generalize P66 (l-1) (wZ l z j)=p at *
 by_cases hc:p<w
 · rw [if_pos hc] at hcs
   rw[hcs,if_pos rfl,if_pos rfl]
   refine Tr.all_ite (fun hc=>Tr.all_reqP rfl (Tr.all_reqP ⟨rfl,hR2⟩ (Tr.all_reqP ⟨rfl,hR⟩ ?_))) (fun hc=>?_)
   · repeat' first | (refine Tr.all_ite (fun hc=>?_) (fun hc=>?_)<;>(try simp (disch:=omega) only[nV,nW] at hc)<;>try omega) | (refine Tr.all_req ?_ ?_;· (try simp (disch:=omega) only[nV,nW]);try omega) | (refine Tr.all_reqP ?_ ?_;· first | exact trivial | rfl | exact ⟨rfl,rfl⟩ | exact ⟨rfl,rfl,rfl⟩ | (simp (disch:=omega) only[nV,nW];done) | ((try simp (disch:=omega) only[nV,nW]);omega)) | fail
     all_goals first
      | exact Tr.all_ok ⟨rfl,by kernel_rfl⟩
      | fail
   · simp (disch:=omega) only[nV,nW] at hc;omega
 · rw [if_neg hc] at hcs
   rw[hcs,if_neg (by decide),if_neg (by decide)]
   refine Tr.all_ite (fun hc=>Tr.all_reqP rfl (Tr.all_reqP ⟨rfl,hR2⟩ (Tr.all_reqP ⟨rfl,hR⟩ ?_))) (fun hc=>?_)
   · repeat' first | (refine Tr.all_ite (fun hc=>?_) (fun hc=>?_)<;>(try simp (disch:=omega) only[nV,nW] at hc)<;>try omega) | (refine Tr.all_req ?_ ?_;· (try simp (disch:=omega) only[nV,nW]);try omega) | (refine Tr.all_reqP ?_ ?_;· first | exact trivial | rfl | exact ⟨rfl,rfl⟩ | exact ⟨rfl,rfl,rfl⟩ | (simp (disch:=omega) only[nV,nW];done) | ((try simp (disch:=omega) only[nV,nW]);omega)) | fail
     all_goals first
      | exact Tr.all_ok ⟨rfl,by kernel_rfl⟩
      | fail
   · simp (disch:=omega) only[nV,nW] at hc;omega
theorem l26 (h:chkO l z=0) (hb:∀ i,i<l→bLo z i≤bHi z i):exec (cxD (n+6) 26 34) (.block 0 (.loop (part Tryz.f26 [1,1,1,1,0,1,0,0]))) (fr26 l z .nils 0) (lvE::H)=some (.normal,fr26 l z (dW (dl (csM l z) l)) (Int.ofNat l)++[(17,.bool false)],dLw (dl (csM l z) l)::H):=by
 obtain ⟨hl,_⟩:=chk_odd h
 refine forX 0 (fun j=>fr26 l z (dW (dl (csM l z) j)) (j:Int)) (fun j=>dLw (dl (csM l z) j)::H) l (fr26 l z (dW (dl (csM l z) l)) (Int.ofNat l)++[(17,.bool false)],dLw (dl (csM l z) l)::H) (by omega) (fun j hj=>?_) ?_
 · have hd:dl (csM l z) (j+1)=if csM l z j=1 then dl (csM l z) j++[(j:Int)] else dl (csM l z) j:=rfl
   have hlen:=dl_len (csM l z) j
   cases e:dl (csM l z) j with
   | nil =>
     rw[e] at hd
     obtain ⟨x,y1,y2,y3⟩:=r26a n l z H h hb j hj
     refine ⟨x,y1,y2,y3.trans ?_⟩
     rw[hd];rfl
   | cons a r =>
     rw[e] at hd hlen
     simp only[List.length_cons] at hlen
     obtain ⟨x,y1,y2,y3⟩:=r26b n l z H h hb j hj (by omega) r.length (by omega) (a::r) rfl
     refine ⟨x,y1,y2,y3.trans ?_⟩
     have ea:(r++[(j:Int)]).length=r.length+1:=by simp
     by_cases hx:csM l z j=1
     · rw[if_pos hx,if_pos hx,hd,if_pos hx]
       show _=(fr26 l z (.slc 0 0 (r++[(j:Int)]).length 0 1 ((r++[(j:Int)]).length+1) none) ((j+1:Nat):Int),(⟨false,[((r++[(j:Int)]).length,.row (.M [.arr .i64 (lstO (a::r++[(j:Int)])) ((r++[(j:Int)]).length+1)]))]⟩:Lvl)::H)
       rw[ea];rfl
     · rw[if_neg hx,if_neg hx,hd,if_neg hx];rfl
 · cases e:dl (csM l z) l with
   | nil =>
     obtain ⟨x,h1,rfl⟩:=ex_all (Q:=fun x=>x=(.exit 0,fr26 l z .nils (Int.ofNat l)++[(17,.bool false)],lvE::H)) (t26x (n+6) l z H (Int.ofNat l)) (il_no0 _) (noBT_ok _ _) (noRT_ok _ _) (by
      refine Tr.all_ite (fun hc=>?_) (fun hc=>Tr.all_ok rfl)
      simp (disch:=omega) only[nV,nW] at hc;omega)
     exact h1
   | cons a r =>
     obtain ⟨x,h1,rfl⟩:=ex_all (Q:=fun x=>x=(.exit 0,fr26 l z (.slc 0 0 r.length 0 1 (r.length+1) none) (Int.ofNat l)++[(17,.bool false)],lvO r.length (r.length+1) (lstO (a::r))::H)) (t26y (n+6) l z H (Int.ofNat l) r.length (r.length+1) (lstO (a::r))) (il_no0 _) (noBT_ok _ _) (noRT_ok _ _) (by
      refine Tr.all_ite (fun hc=>?_) (fun hc=>Tr.all_ok rfl)
      simp (disch:=omega) only[nV,nW] at hc;omega)
     exact h1
theorem c26:cd (n+8) (.fn 26) [slA 5 l z] H=some (csPV l z,H):=by
 have hc:∀ k H,cd (n+7+k) (.fn 21) [slA 5 l z] H=some (.int .i64 (chkO l z),H):=fun k H=>by rw[show n+7+k=n+4+k+3 by omega];exact c21 _ l z H
 unfold csPV
 have hw:=who_eq l z
 by_cases h:chkO l z=0
 · have h65:∀ k H,cd (n+7+k) (.fn 65) [slA 5 l z] H=some (.bool (!exN (noB z) l),H):=fun k H=>by rw[show n+7+k=n+5+k+2 by omega];exact c65 _ l z H h
   rw[h] at hc
   rw[if_neg (fun x=>x h)] at hw
   cases hs:exN (noB z) l with
   | true =>
     rw[hs] at hw h65
     rw[if_pos rfl] at hw
     rw[hw,if_neg (by decide)]
     refine fn_all (n:=n+7) Tryz.func26 rfl rfl rfl (u26y (n+7) l z H) (il_ok _ (n+7) 0 (fun k=>ctV2 (ctV1 (noCt_ok _) (hc k)) (h65 k))) (stopB_ok (noBT_ok _ _) 0) (noRT_ok _ _) ?_
     repeat' first | (refine Tr.all_ite (fun hc=>?_) (fun hc=>?_)<;>(try simp (disch:=omega) only[nV,nW] at hc)<;>try omega) | (refine Tr.all_req ?_ ?_;· (try simp (disch:=omega) only[nV,nW]);try omega) | (refine Tr.all_reqP ?_ ?_;· first | exact trivial | rfl | exact ⟨rfl,rfl⟩ | exact ⟨rfl,rfl,rfl⟩ | (simp (disch:=omega) only[nV,nW];done) | ((try simp (disch:=omega) only[nV,nW]);omega)) | fail
     all_goals first
      | exact Tr.all_ok ⟨rfl,rfl⟩
      | fail
   | false =>
     rw[hs] at hw h65
     rw[if_neg (by decide)] at hw
     rw[hw,if_pos rfl]
     have hx:=l26 (n+1) l z H h ((no_all l z).1 hs)
     cases e:dl (csM l z) l with
     | nil =>
       rw[e] at hx
       refine fn_all (n:=n+7) Tryz.func26 rfl rfl rfl (u26n (n+7) l z H) (il_ok _ (n+7) 0 (fun k=>ctV2 (ctV1 (noCt_ok _) (hc k)) (h65 k))) (blkE_ok (noBT_ok _ _) b26 (fun x hy=>by rw[← Tr.ok_some hy];simp only[Res.st,hints_eq];exact hx)) (noRT_ok _ _) ?_
       repeat' first | (refine Tr.all_ite (fun hc=>?_) (fun hc=>?_)<;>(try simp (disch:=omega) only[nV,nW] at hc)<;>try omega) | (refine Tr.all_req ?_ ?_;· (try simp (disch:=omega) only[nV,nW]);try omega) | (refine Tr.all_reqP ?_ ?_;· first | exact trivial | rfl | exact ⟨rfl,rfl⟩ | exact ⟨rfl,rfl,rfl⟩ | (simp (disch:=omega) only[nV,nW];done) | ((try simp (disch:=omega) only[nV,nW]);omega)) | fail
       all_goals first
        | exact Tr.all_ok ⟨rfl,rfl⟩
        | fail
     | cons a r =>
       rw[e] at hx
       refine fn_all (n:=n+7) Tryz.func26 rfl rfl rfl (u26o (n+7) l z H r.length (r.length+1) (lstO (a::r))) (il_ok _ (n+7) 0 (fun k=>ctV2 (ctV1 (noCt_ok _) (hc k)) (h65 k))) (blkE_ok (noBT_ok _ _) b26 (fun x hy=>by rw[← Tr.ok_some hy];simp only[Res.st,hints_eq];exact hx)) (noRT_ok _ _) ?_
       rw[shO_zero]
       repeat' first | (refine Tr.all_ite (fun hc=>?_) (fun hc=>?_)<;>(try simp (disch:=omega) only[nV,nW] at hc)<;>try omega) | (refine Tr.all_req ?_ ?_;· (try simp (disch:=omega) only[nV,nW]);try omega) | (refine Tr.all_reqP ?_ ?_;· first | exact trivial | rfl | exact ⟨rfl,rfl⟩ | exact ⟨rfl,rfl,rfl⟩ | (simp (disch:=omega) only[nV,nW];done) | ((try simp (disch:=omega) only[nV,nW]);omega)) | fail
       all_goals first
        | exact Tr.all_ok ⟨rfl,rfl⟩
        | fail
 · rw[if_pos h] at hw
   rw[hw,if_neg h]
   refine fn_all (n:=n+7) Tryz.func26 rfl rfl rfl (u26x (n+7) l z H (chkO l z)) (il_ok _ (n+7) 0 (fun k=>ctV1 (noCt_ok _) (hc k))) (stopB_ok (noBT_ok _ _) 0) (noRT_ok _ _) ?_
   repeat' first | (refine Tr.all_ite (fun hc=>?_) (fun hc=>?_)<;>(try simp (disch:=omega) only[nV,nW] at hc)<;>try omega) | (refine Tr.all_req ?_ ?_;· (try simp (disch:=omega) only[nV,nW]);try omega) | (refine Tr.all_reqP ?_ ?_;· first | exact trivial | rfl | exact ⟨rfl,rfl⟩ | exact ⟨rfl,rfl,rfl⟩ | (simp (disch:=omega) only[nV,nW];done) | ((try simp (disch:=omega) only[nV,nW]);omega)) | fail
   all_goals first
    | exact Tr.all_ok ⟨rfl,rfl⟩
    | fail
end
end Go.Eng
end
