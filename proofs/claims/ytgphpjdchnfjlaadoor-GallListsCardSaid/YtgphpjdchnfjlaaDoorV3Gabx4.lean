/- Gall: back, by the reference: its loops. Printed by mkGab.py. -/
import Derived.Test.YtgphpjdchnfjlaaDoorV3Ga8x3
set_option linter.unusedVariables false
set_option linter.unusedSimpArgs false
set_option maxRecDepth 100000
section
namespace Go.Eng
open Go.Proofs Go.Eng.Gall
noncomputable def LL (lc:Nat):Nat:=cD (Int.ofNat lc)
theorem An (lc:Nat):LL lc=lc:=by unfold LL;rw[np];rfl
theorem JN (n:Nat) (dr:Int) (lc L:Nat) (zc:Nat→Int) (lb:Nat) (zb:Nat→Int) (H:aa) (y x:Nat→Int) (t a:Int):aZ (cI n 64 66) (il aX n 0) (lT bo 6) bp (part Tryd.f64 [1,1,1,1,0,1,0,0,1,0,0,1,0,1,0,0]) (hints (lg 1 lc L t a)) (c6 dr lc zc lb zb [b8 L y,b8 L x]::H) =
 Tr.ite (da a (Int.ofNat lc)) Tr.bad (Tr.ok (Ex.exit 4,[(1,AV.ptr 0 0 0 0,none),(3,AV.int .i64 (Int.ofNat lc),none),(4,AV.slc 0 1 0 0 1 L (some L),none),(6,AV.int .i64 t,none),(7,AV.slc 0 2 0 0 1 L (some L),none),(8,AV.int .i64 a,none),(33,AV.bool false,some 1)],{ lock:=false,bs:=[(0,av.row (Row.G [AV.int .i64 dr,AV.slcT none (Row.M [aw.arr .i64 zc (aq lc 4)]) 4 lc false,AV.slcT none (Row.M [aw.arr .i64 zb (aq lb 2)]) 2 lb false])),(0,av.row (Row.M [aw.arr .i64 y L])),(0,av.row (Row.M [aw.arr .i64 x L]))] } :: H)):=by kernel_rfl
theorem JO (n:Nat) (dr:Int) (lc L:Nat) (zc:Nat→Int) (lb:Nat) (zb:Nat→Int) (H:aa) (g:Nat→Int) (y x:Nat→Int) (t a:Int):aZ (cI n 64 66) (il aX n 0) (lT bo 6) bp (part Tryd.f64 [1,1,1,1,0,1,0,0,1,0,0,1,0,1,0,0]) (hints (lg 2 lc L t a)) (c6 dr lc zc lb zb [b8 L g,b8 L y,b8 L x]::H) =
 Tr.ite (da a (Int.ofNat lc)) Tr.bad (Tr.ok (Ex.exit 4,[(1,AV.ptr 0 0 0 0,none),(3,AV.int .i64 (Int.ofNat lc),none),(4,AV.slc 0 2 0 0 1 L (some L),none),(6,AV.int .i64 t,none),(7,AV.slc 0 3 0 0 1 L (some L),none),(8,AV.int .i64 a,none),(33,AV.bool false,some 1)],{ lock:=false,bs:=[(0,av.row (Row.G [AV.int .i64 dr,AV.slcT none (Row.M [aw.arr .i64 zc (aq lc 4)]) 4 lc false,AV.slcT none (Row.M [aw.arr .i64 zb (aq lb 2)]) 2 lb false])),(0,av.row (Row.M [aw.arr .i64 g L])),(0,av.row (Row.M [aw.arr .i64 y L])),(0,av.row (Row.M [aw.arr .i64 x L]))] } :: H)):=by kernel_rfl
theorem JP (n:Nat) (dr:Int) (lc L:Nat) (zc:Nat→Int) (lb:Nat) (zb:Nat→Int) (H:aa) (g:Nat→Int) (y:Nat→Int) (t:Int):aZ (cI n 64 66) (il aX n 0) (lT bo 4) bp (part Tryd.f64 [1,1,1,1,0,1,0,0]) (hints (my 2 lc L 6 t)) (c6 dr lc zc lb zb [b8 L g,b8 L y]::H) =
 Tr.ite (da t (Int.ofNat lc)) (Tr.req (CW (Int.ofNat lc) (Int.ofNat lc) 8) Tr.bad) (Tr.ok (Ex.exit 2,[(1,AV.ptr 0 0 0 0,none),(3,AV.int .i64 (Int.ofNat lc),none),(4,AV.slc 0 2 0 0 1 L (some L),none),(6,AV.int .i64 t,none),(26,AV.bool false,some 1)],{ lock:=false,bs:=[(0,av.row (Row.G [AV.int .i64 dr,AV.slcT none (Row.M [aw.arr .i64 zc (aq lc 4)]) 4 lc false,AV.slcT none (Row.M [aw.arr .i64 zb (aq lb 2)]) 2 lb false])),(0,av.row (Row.M [aw.arr .i64 g L])),(0,av.row (Row.M [aw.arr .i64 y L]))] } :: H)):=by kernel_rfl
section
variable (n:Nat) (dr:Int) (lc:Nat) (zc:Nat→Int) (lb:Nat) (zb:Nat→Int) (b:Nat→Nat) (H:aa)
theorem R3 (t a:Nat) (hl:lc≤10) (hb:lb≤1000) (ha:a<lc) (ti:Int):exec (cI (n+1) 64 66) (.block 6 (.loop (part Tryd.f64 [1,1,1,1,0,1,0,0,1,0,0,1,0,1,0,0,1,0,0,1,0,0]))) (nR 1 lc (LL lc) ti (a:Int) (Int.ofNat 0)) (c6 dr lc zc lb zb [b8 (LL lc) (cQ (bD lc b t)),b8 (LL lc) (cQ (sP lc lb zb b t a 0))]::H) =
 some (.normal,nR 1 lc (LL lc) ti (a:Int) (Int.ofNat lc)++[(38,.bool false)],c6 dr lc zc lb zb [b8 (LL lc) (cQ (bD lc b t)),b8 (LL lc) (cQ (sP lc lb zb b t a lc))]::H):=by
 have eL:=An lc
 refine ld (n:=n+1) (f:=64) (nt:=66) (c:=part Tryd.f64 [1,1,1,1,0,1,0,0,1,0,0,1,0,1,0,0,1,0,0,1,0,0]) 6 (fun c=>nR 1 lc (LL lc) ti (a:Int) (c:Int)) (fun c=>c6 dr lc zc lb zb [b8 (LL lc) (cQ (bD lc b t)),b8 (LL lc) (cQ (sP lc lb zb b t a c))]::H) lc (_,_) (by omega) (fun c hc=>?_) ?_
 · have ec:bz .i64 (c:Int) (Int.ofNat 1)=((c+1:Nat):Int):=gN (by omega)
   have T:=Hi (n+1) dr lc (LL lc) zc lb zb H (cQ (bD lc b t)) (cQ (sP lc lb zb b t a c)) (yM lb zb) ti (a:Int) (c:Int)
   rw[DX,DX,ec,zJ] at T
   refine aY T (cK _ _ (vj dr lc zc lb zb (by omega) hb)) (ak _ _) (al _ _) ?_
   refine Tr.ag (fun h0=>?_) (fun h0=>by simp (disch:=omega) only[nV,nW] at h0;omega)
   refine Tr.af (by rw[eL];simp (disch:=omega) only[nV,nW];omega) (Tr.af (by simp (disch:=omega) only[nV,nW]) (Tr.af (by rw[eL];simp (disch:=omega) only[nV,nW];omega) (Tr.ag (fun q=>?_) (fun q=>?_))))
   · refine Tr.an rfl (Tr.ag (fun r=>?_) (fun r=>?_))
     · refine Tr.af (by rw[eL];simp (disch:=omega) only[nV,nW];omega) (Tr.af (by simp (disch:=omega) only[nV,nW]) (Tr.af (by rw[eL];simp (disch:=omega) only[nV,nW];omega) (Tr.ah ⟨rfl,?_⟩)))
       rw[Bn lc lb zb b t a c (by rw[q,r];rfl)];rfl
     · refine Tr.ah ⟨rfl,?_⟩
       rw[qy lc lb zb b t a c (by rw[q,r];rfl)];rfl
   · refine Tr.ah ⟨rfl,?_⟩
     rw[qy lc lb zb b t a c (by rw[q];rfl)];rfl
 · obtain ⟨x,h1,rfl⟩:=aY (Q:=fun x=>x=(.exit 6,nR 1 lc (LL lc) ti (a:Int) (Int.ofNat lc)++[(38,.bool false)],c6 dr lc zc lb zb [b8 (LL lc) (cQ (bD lc b t)),b8 (LL lc) (cQ (sP lc lb zb b t a lc))]::H)) (Hi (n+1) dr lc (LL lc) zc lb zb H (cQ (bD lc b t)) (cQ (sP lc lb zb b t a lc)) (yM lb zb) ti (a:Int) (Int.ofNat lc)) (cK _ _ (vj dr lc zc lb zb (by omega) hb)) (ak _ _) (al _ _) (by
    refine Tr.ag (fun h0=>by simp (disch:=omega) only[nV,nW] at h0;omega) (fun h0=>Tr.ah rfl))
   exact h1
theorem R0 (t:Nat) (hl:lc≤10) (hb:lb≤1000) (ti:Int):exec (cI (n+1) 64 66) (.block 4 (.loop (part Tryd.f64 [1,1,1,1,0,1,0,0,1,0,0,1,0,1,0,0]))) (lg 1 lc (LL lc) ti (Int.ofNat 0)) (c6 dr lc zc lb zb [b8 (LL lc) (cQ (bD lc b t)),b8 (LL lc) (cQ (sO lc lb zb b t 0))]::H) =
 some (.normal,lg 1 lc (LL lc) ti (Int.ofNat lc)++[(33,.bool false)],c6 dr lc zc lb zb [b8 (LL lc) (cQ (bD lc b t)),b8 (LL lc) (cQ (sO lc lb zb b t lc))]::H):=by
 refine ld (n:=n+1) (f:=64) (nt:=66) (c:=part Tryd.f64 [1,1,1,1,0,1,0,0,1,0,0,1,0,1,0,0]) 4 (fun a=>lg 1 lc (LL lc) ti (a:Int)) (fun a=>c6 dr lc zc lb zb [b8 (LL lc) (cQ (bD lc b t)),b8 (LL lc) (cQ (sO lc lb zb b t a))]::H) lc (_,_) (by omega) (fun a ha=>?_) ?_
 · have ec:bz .i64 (a:Int) (Int.ofNat 1)=((a+1:Nat):Int):=gN (by omega)
   have hC:=R3 n dr lc zc lb zb b H t a hl hb ha ti
   rw[Hf,Bm] at hC
   have T:=LB (n+1) dr lc (LL lc) zc lb zb H (cQ (bD lc b t)) (cQ (sO lc lb zb b t a)) (cQ (sO lc lb zb b t (a+1))) ti (a:Int)
   rw[ec] at T
   refine aY T (aV _) (bu (ak _ _) G1 (fun x h=>by rw[← Tr.ab h];simp only[gZ.st,bn];exact hC)) (al _ _) ?_
   refine Tr.ag (fun h0=>Tr.an ⟨rfl,rfl⟩ (Tr.ah ⟨rfl,rfl⟩)) (fun h0=>by simp (disch:=omega) only[nV,nW] at h0;omega)
 · obtain ⟨x,h1,rfl⟩:=aY (Q:=fun x=>x=(.exit 4,lg 1 lc (LL lc) ti (Int.ofNat lc)++[(33,.bool false)],c6 dr lc zc lb zb [b8 (LL lc) (cQ (bD lc b t)),b8 (LL lc) (cQ (sO lc lb zb b t lc))]::H)) (JN (n+1) dr lc (LL lc) zc lb zb H (cQ (bD lc b t)) (cQ (sO lc lb zb b t lc)) ti (Int.ofNat lc)) (aV _) (fB (ak _ _) 6) (al _ _) (by
    refine Tr.ag (fun h0=>by simp (disch:=omega) only[nV,nW] at h0;omega) (fun h0=>Tr.ah rfl))
   exact h1
theorem R4 (g:Nat→Int) (t a:Nat) (hl:lc≤10) (hb:lb≤1000) (ha:a<lc) (ti:Int):exec (cI (n+1) 64 66) (.block 6 (.loop (part Tryd.f64 [1,1,1,1,0,1,0,0,1,0,0,1,0,1,0,0,1,0,0,1,0,0]))) (nR 2 lc (LL lc) ti (a:Int) (Int.ofNat 0)) (c6 dr lc zc lb zb [b8 (LL lc) g,b8 (LL lc) (cQ (bD lc b t)),b8 (LL lc) (cQ (sP lc lb zb b t a 0))]::H) =
 some (.normal,nR 2 lc (LL lc) ti (a:Int) (Int.ofNat lc)++[(38,.bool false)],c6 dr lc zc lb zb [b8 (LL lc) g,b8 (LL lc) (cQ (bD lc b t)),b8 (LL lc) (cQ (sP lc lb zb b t a lc))]::H):=by
 have eL:=An lc
 refine ld (n:=n+1) (f:=64) (nt:=66) (c:=part Tryd.f64 [1,1,1,1,0,1,0,0,1,0,0,1,0,1,0,0,1,0,0,1,0,0]) 6 (fun c=>nR 2 lc (LL lc) ti (a:Int) (c:Int)) (fun c=>c6 dr lc zc lb zb [b8 (LL lc) g,b8 (LL lc) (cQ (bD lc b t)),b8 (LL lc) (cQ (sP lc lb zb b t a c))]::H) lc (_,_) (by omega) (fun c hc=>?_) ?_
 · have ec:bz .i64 (c:Int) (Int.ofNat 1)=((c+1:Nat):Int):=gN (by omega)
   have T:=Hj (n+1) dr lc (LL lc) zc lb zb H g (cQ (bD lc b t)) (cQ (sP lc lb zb b t a c)) (yM lb zb) ti (a:Int) (c:Int)
   rw[DX,DX,ec,zJ] at T
   refine aY T (cK _ _ (vj dr lc zc lb zb (by omega) hb)) (ak _ _) (al _ _) ?_
   refine Tr.ag (fun h0=>?_) (fun h0=>by simp (disch:=omega) only[nV,nW] at h0;omega)
   refine Tr.af (by rw[eL];simp (disch:=omega) only[nV,nW];omega) (Tr.af (by simp (disch:=omega) only[nV,nW]) (Tr.af (by rw[eL];simp (disch:=omega) only[nV,nW];omega) (Tr.ag (fun q=>?_) (fun q=>?_))))
   · refine Tr.an rfl (Tr.ag (fun r=>?_) (fun r=>?_))
     · refine Tr.af (by rw[eL];simp (disch:=omega) only[nV,nW];omega) (Tr.af (by simp (disch:=omega) only[nV,nW]) (Tr.af (by rw[eL];simp (disch:=omega) only[nV,nW];omega) (Tr.ah ⟨rfl,?_⟩)))
       rw[Bn lc lb zb b t a c (by rw[q,r];rfl)];rfl
     · refine Tr.ah ⟨rfl,?_⟩
       rw[qy lc lb zb b t a c (by rw[q,r];rfl)];rfl
   · refine Tr.ah ⟨rfl,?_⟩
     rw[qy lc lb zb b t a c (by rw[q];rfl)];rfl
 · obtain ⟨x,h1,rfl⟩:=aY (Q:=fun x=>x=(.exit 6,nR 2 lc (LL lc) ti (a:Int) (Int.ofNat lc)++[(38,.bool false)],c6 dr lc zc lb zb [b8 (LL lc) g,b8 (LL lc) (cQ (bD lc b t)),b8 (LL lc) (cQ (sP lc lb zb b t a lc))]::H)) (Hj (n+1) dr lc (LL lc) zc lb zb H g (cQ (bD lc b t)) (cQ (sP lc lb zb b t a lc)) (yM lb zb) ti (a:Int) (Int.ofNat lc)) (cK _ _ (vj dr lc zc lb zb (by omega) hb)) (ak _ _) (al _ _) (by
    refine Tr.ag (fun h0=>by simp (disch:=omega) only[nV,nW] at h0;omega) (fun h0=>Tr.ah rfl))
   exact h1
theorem R2 (g:Nat→Int) (t:Nat) (hl:lc≤10) (hb:lb≤1000) (ti:Int):exec (cI (n+1) 64 66) (.block 4 (.loop (part Tryd.f64 [1,1,1,1,0,1,0,0,1,0,0,1,0,1,0,0]))) (lg 2 lc (LL lc) ti (Int.ofNat 0)) (c6 dr lc zc lb zb [b8 (LL lc) g,b8 (LL lc) (cQ (bD lc b t)),b8 (LL lc) (cQ (sO lc lb zb b t 0))]::H) =
 some (.normal,lg 2 lc (LL lc) ti (Int.ofNat lc)++[(33,.bool false)],c6 dr lc zc lb zb [b8 (LL lc) g,b8 (LL lc) (cQ (bD lc b t)),b8 (LL lc) (cQ (sO lc lb zb b t lc))]::H):=by
 refine ld (n:=n+1) (f:=64) (nt:=66) (c:=part Tryd.f64 [1,1,1,1,0,1,0,0,1,0,0,1,0,1,0,0]) 4 (fun a=>lg 2 lc (LL lc) ti (a:Int)) (fun a=>c6 dr lc zc lb zb [b8 (LL lc) g,b8 (LL lc) (cQ (bD lc b t)),b8 (LL lc) (cQ (sO lc lb zb b t a))]::H) lc (_,_) (by omega) (fun a ha=>?_) ?_
 · have ec:bz .i64 (a:Int) (Int.ofNat 1)=((a+1:Nat):Int):=gN (by omega)
   have hC:=R4 n dr lc zc lb zb b H g t a hl hb ha ti
   rw[Hf,Bm] at hC
   have T:=LC (n+1) dr lc (LL lc) zc lb zb H g (cQ (bD lc b t)) (cQ (sO lc lb zb b t a)) (cQ (sO lc lb zb b t (a+1))) ti (a:Int)
   rw[ec] at T
   refine aY T (aV _) (bu (ak _ _) G1 (fun x h=>by rw[← Tr.ab h];simp only[gZ.st,bn];exact hC)) (al _ _) ?_
   refine Tr.ag (fun h0=>Tr.an ⟨rfl,rfl⟩ (Tr.ah ⟨rfl,rfl⟩)) (fun h0=>by simp (disch:=omega) only[nV,nW] at h0;omega)
 · obtain ⟨x,h1,rfl⟩:=aY (Q:=fun x=>x=(.exit 4,lg 2 lc (LL lc) ti (Int.ofNat lc)++[(33,.bool false)],c6 dr lc zc lb zb [b8 (LL lc) g,b8 (LL lc) (cQ (bD lc b t)),b8 (LL lc) (cQ (sO lc lb zb b t lc))]::H)) (JO (n+1) dr lc (LL lc) zc lb zb H g (cQ (bD lc b t)) (cQ (sO lc lb zb b t lc)) ti (Int.ofNat lc)) (aV _) (fB (ak _ _) 6) (al _ _) (by
    refine Tr.ag (fun h0=>by simp (disch:=omega) only[nV,nW] at h0;omega) (fun h0=>Tr.ah rfl))
   exact h1
end
end Go.Eng
end
section
namespace Go.Eng
open Go.Proofs Go.Eng.Gall
theorem II (p:Nat→Bool) (n:Nat):eV p n=(List.range n).any p:=by
 rw[Bool.eq_iff_iff,dG,List.any_eq_true]
 constructor
 · rintro ⟨i,h1,h2⟩;exact ⟨i,List.mem_range.2 h1,h2⟩
 · rintro ⟨i,h1,h2⟩;exact ⟨i,List.mem_range.1 h1,h2⟩
section
variable (n:Nat) (dr:Int) (lc:Nat) (zc:Nat→Int) (lb:Nat) (zb:Nat→Int) (b:Nat→Nat) (H:aa)
theorem R7:cQ (fun c=>decide (c<0))=fun _=>Int.ofNat 0:=by funext j;unfold cQ;simp
theorem F9 (j:Nat):gH (cQ (fun c=>decide (c<j))) j (Int.ofNat 1)=cQ (fun c=>decide (c<j+1)):=by
 rw[mn];funext c;unfold cQ
 by_cases e:c=j
 · subst e;rw[if_pos rfl,if_pos (by simp)];rfl
 · rw[if_neg e]
   by_cases h:c<j
   · rw[if_pos (decide_eq_true h),if_pos (decide_eq_true (by omega))]
   · rw[if_neg (by simpa using h),if_neg (by simp;omega)]
theorem Nn (hl:lc≤10):exec (cI (n+1) 64 66) (.block 0 (.loop (part Tryd.f64 [1,1,1,0,1,0,0]))) (my 1 lc (LL lc) 5 (Int.ofNat 0)) (c6 dr lc zc lb zb [b8 (LL lc) (cQ (fun c=>decide (c<0)))]::H) =
 some (.normal,my 1 lc (LL lc) 5 (Int.ofNat lc)++[(18,.bool false)],c6 dr lc zc lb zb [b8 (LL lc) (cQ (fun c=>decide (c<lc)))]::H):=by
 have eL:=An lc
 refine ld (n:=n+1) (f:=64) (nt:=66) (c:=part Tryd.f64 [1,1,1,0,1,0,0]) 0 (fun j=>my 1 lc (LL lc) 5 (j:Int)) (fun j=>c6 dr lc zc lb zb [b8 (LL lc) (cQ (fun c=>decide (c<j)))]::H) lc (_,_) (by omega) (fun j hj=>?_) ?_
 · have ej:bz .i64 (j:Int) (Int.ofNat 1)=((j+1:Nat):Int):=gN (by omega)
   have T:=LA (n+1) dr lc (LL lc) zc lb zb H (cQ (fun c=>decide (c<j))) (j:Int)
   rw[DX,ej,F9] at T
   refine aY T (aV _) (ak _ _) (al _ _) ?_
   refine Tr.ag (fun h0=>?_) (fun h0=>by simp (disch:=omega) only[nV,nW] at h0;omega)
   exact Tr.af (by rw[eL];simp (disch:=omega) only[nV,nW];omega) (Tr.af (by simp (disch:=omega) only[nV,nW]) (Tr.af (by rw[eL];simp (disch:=omega) only[nV,nW];omega) (Tr.ah ⟨rfl,rfl⟩)))
 · obtain ⟨x,h1,rfl⟩:=aY (Q:=fun x=>x=(.exit 0,my 1 lc (LL lc) 5 (Int.ofNat lc)++[(18,.bool false)],c6 dr lc zc lb zb [b8 (LL lc) (cQ (fun c=>decide (c<lc)))]::H)) (LA (n+1) dr lc (LL lc) zc lb zb H (cQ (fun c=>decide (c<lc))) (Int.ofNat lc)) (aV _) (ak _ _) (al _ _) (by
    refine Tr.ag (fun h0=>by simp (disch:=omega) only[nV,nW] at h0;omega) (fun h0=>Tr.ah rfl))
   exact h1
noncomputable def PH (lc:Nat):Nat→az
 | 0=>my 1 lc (LL lc) 6 (Int.ofNat 0)
 | t+1=>my 2 lc (LL lc) 6 ((t+1:Nat):Int)
noncomputable def KU:Nat→aa
 | 0=>c6 dr lc zc lb zb [b8 (LL lc) (cQ (bD lc b 0))]::H
 | t+1=>c6 dr lc zc lb zb [b8 (LL lc) (cQ (bD lc b 0)),b8 (LL lc) (cQ (bD lc b (t+1)))]::H
theorem Nl (hl:lc≤10) (h1:1≤lc) (hb:lb≤1000) (hB:b=fun c=>eu zb c lb) (hp:fi lc lb zb):exec (cI (n+1) 64 66) (.block 2 (.loop (part Tryd.f64 [1,1,1,1,0,1,0,0]))) (PH lc 0) (KU dr lc zc lb zb b H 0) =
 some (.normal,my 2 lc (LL lc) 6 (Int.ofNat lc)++[(26,.bool false)],KU dr lc zc lb zb b H lc):=by
 have mk8:CW (Int.ofNat lc) (Int.ofNat lc) 8=true:=by simp (disch:=omega) only[nV,nW];omega
 refine ld (n:=n+1) (f:=64) (nt:=66) (c:=part Tryd.f64 [1,1,1,1,0,1,0,0]) 2 (PH lc) (KU dr lc zc lb zb b H) lc (_,_) (by omega) (fun t ht=>?_) ?_
 · have ec:bz .i64 (t:Int) (Int.ofNat 1)=((t+1:Nat):Int):=gN (by omega)
   cases t with
   | zero =>
     have hx:=R0 n dr lc zc lb zb b H 0 hl hb (((0:Nat)):Int)
     rw[He,Eh lc lb zb hB hp] at hx
     have T:=LF (n+1) dr lc zc lb zb H (cQ (bD lc b 0)) (cQ (bD lc b (0+1))) (((0:Nat)):Int)
     rw[ec] at T
     refine aY T (aV _) (bu (ak _ _) G0 (fun x h=>by rw[← Tr.ab h];simp only[gZ.st,bn];exact hx)) (al _ _) ?_
     exact Tr.ag (fun h0=>Tr.af mk8 (Tr.an ⟨rfl,rfl⟩ (Tr.ah ⟨rfl,rfl⟩))) (fun h0=>by simp (disch:=omega) only[nV,nW] at h0;omega)
   | succ t =>
     have hx:=R2 n dr lc zc lb zb b H (cQ (bD lc b 0)) (t+1) hl hb (((t+1:Nat)):Int)
     rw[He,Eh lc lb zb hB hp] at hx
     have T:=LG (n+1) dr lc zc lb zb H (cQ (bD lc b 0)) (cQ (bD lc b (t+1))) (cQ (bD lc b (t+1+1))) (((t+1:Nat)):Int)
     rw[ec] at T
     refine aY T (aV _) (bu (ak _ _) G0 (fun x h=>by rw[← Tr.ab h];simp only[gZ.st,bn];exact hx)) (al _ _) ?_
     exact Tr.ag (fun h0=>Tr.af mk8 (Tr.an ⟨rfl,rfl⟩ (Tr.ah ⟨rfl,rfl⟩))) (fun h0=>by simp (disch:=omega) only[nV,nW] at h0;omega)
 · obtain ⟨m,rfl⟩:∃ m,lc=m+1:=⟨lc-1,by omega⟩
   obtain ⟨x,h1,rfl⟩:=aY (Q:=fun x=>x=(.exit 2,my 2 (m+1) (LL (m+1)) 6 (Int.ofNat (m+1))++[(26,.bool false)],KU dr (m+1) zc lb zb b H (m+1))) (JP (n+1) dr (m+1) (LL (m+1)) zc lb zb H (cQ (bD (m+1) b 0)) (cQ (bD (m+1) b (m+1))) (Int.ofNat (m+1))) (aV _) (fB (ak _ _) 4) (al _ _) (by
    refine Tr.ag (fun h0=>by simp (disch:=omega) only[nV,nW] at h0;omega) (fun h0=>Tr.ah rfl))
   exact h1
theorem Nm (hl:lc≤10) (g:Nat→Int) (p:Nat→Bool):exec (cI (n+1) 64 66) (.block 8 (.loop (part Tryd.f64 [1,1,1,1,1,0,1,0,0]))) (zu lc (LL lc) (Int.ofNat 0)) (c6 dr lc zc lb zb [b8 (LL lc) g,b8 (LL lc) (cQ p)]::H) =
 some (cond (eV p lc) (.ret,[(2,.bool true)],c6 dr lc zc lb zb [b8 (LL lc) g,b8 (LL lc) (cQ p)]::H) (.normal,zu lc (LL lc) (Int.ofNat lc)++[(58,.bool false)],c6 dr lc zc lb zb [b8 (LL lc) g,b8 (LL lc) (cQ p)]::H)):=by
 have eL:=An lc
 refine kZ (n:=n+1) (f:=64) (nt:=66) (c:=part Tryd.f64 [1,1,1,1,1,0,1,0,0]) 8 (fun j=>zu lc (LL lc) (j:Int)) (fun _=>c6 dr lc zc lb zb [b8 (LL lc) g,b8 (LL lc) (cQ p)]::H) lc p (fun j=>([(2,.bool true)],c6 dr lc zc lb zb [b8 (LL lc) g,b8 (LL lc) (cQ p)]::H)) (_,_) (by omega) (fun j hj=>?_) ?_
 · have ej:bz .i64 (j:Int) (Int.ofNat 1)=((j+1:Nat):Int):=gN (by omega)
   have T:=LD (n+1) dr lc (LL lc) zc lb zb H g (cQ p) (j:Int)
   rw[DX,ej,zJ] at T
   refine aY T (aV _) (ak _ _) (al _ _) ?_
   refine Tr.ag (fun h0=>?_) (fun h0=>by simp (disch:=omega) only[nV,nW] at h0;omega)
   refine Tr.af (by rw[eL];simp (disch:=omega) only[nV,nW];omega) (Tr.af (by simp (disch:=omega) only[nV,nW]) (Tr.af (by rw[eL];simp (disch:=omega) only[nV,nW];omega) (Tr.ag (fun q=>Tr.ah ?_) (fun q=>Tr.ah ?_))))
   · rw[if_pos q];rfl
   · rw[if_neg (by rw[q];decide)];exact ⟨rfl,rfl⟩
 · obtain ⟨x,h1,rfl⟩:=aY (Q:=fun x=>x=(.exit 8,zu lc (LL lc) (Int.ofNat lc)++[(58,.bool false)],c6 dr lc zc lb zb [b8 (LL lc) g,b8 (LL lc) (cQ p)]::H)) (LD (n+1) dr lc (LL lc) zc lb zb H g (cQ p) (Int.ofNat lc)) (aV _) (ak _ _) (al _ _) (by
    refine Tr.ag (fun h0=>by simp (disch:=omega) only[nV,nW] at h0;omega) (fun h0=>Tr.ah rfl))
   exact h1
theorem Qj (hl:lc≤10) (h1:1≤lc) (hb:lb≤1000) (hp:fi lc lb zb):cd (n+2) (.fn 64) [df dr lc zc lb zb] H=some (.bool (kK lc (fun c=>eu zb c lb)),H):=by
 have e1:=Nn n dr lc zc lb zb H hl
 rw[R7] at e1
 have e2:=Nl n dr lc zc lb zb (fun c=>eu zb c lb) H hl h1 hb rfl hp
 have e3:=Nm n dr lc zc lb zb H hl (cQ (bD lc (fun c=>eu zb c lb) 0)) (bD lc (fun c=>eu zb c lb) lc)
 have hT:KU dr lc zc lb zb (fun c=>eu zb c lb) H lc=c6 dr lc zc lb zb [b8 (LL lc) (cQ (bD lc (fun c=>eu zb c lb) 0)),b8 (LL lc) (cQ (bD lc (fun c=>eu zb c lb) lc))]::H:=by
  obtain ⟨m,rfl⟩:∃ m,lc=m+1:=⟨lc-1,by omega⟩
  rfl
 rw[hT] at e2
 refine bN (n:=n+1) Tryd.func64 rfl rfl rfl (u64 (n+1) dr lc zc lb zb H (cQ (bD lc (fun c=>eu zb c lb) 0)) (cQ (bD lc (fun c=>eu zb c lb) 0)) (cQ (bD lc (fun c=>eu zb c lb) lc)) (eV (bD lc (fun c=>eu zb c lb) lc) lc)) (aV _) (bu (bu (bu (ak _ _) Kj (fun x h=>by rw[← Tr.ab h];simp only[gZ.st,bn];exact e1)) Kk (fun x h=>by rw[← Tr.ab h];simp only[gZ.st,bn];exact e2)) Kl (fun x h=>fm h e3)) (al _ _) ?_
 have mk8:CW (Int.ofNat lc) (Int.ofNat lc) 8=true:=by simp (disch:=omega) only[nV,nW];omega
 have eb:eV (bD lc (fun c=>eu zb c lb) lc) lc=kK lc (fun c=>eu zb c lb):=II _ _
 rw[eb]
 refine Tr.af mk8 (Tr.an ⟨rfl,rfl⟩ (Tr.an ⟨rfl,rfl⟩ (Tr.an ⟨rfl,rfl⟩ (Tr.ag (fun q=>Tr.ah ⟨?_,rfl⟩) (fun q=>Tr.ah ⟨?_,rfl⟩)))))
 · rw[q]
 · rw[q]
end
end Go.Eng
end
section
namespace Go.Eng
open Go.Proofs
noncomputable def mP (s:Nat) (j:Int):az:=[(1,.ptr 0 0 0 0),(s,.int .i64 j)]
noncomputable def zm (j k:Int):az:=[(1,.ptr 0 0 0 0),(5,.int .i64 j),(6,.ptr 0 1 0 0),(7,.int .i64 k)]
noncomputable def CF (a b:Int):Nat×av:=(0,.row (.I .i64 [a,b]))
theorem Lr (n:Nat) (dr:Int) (lc:Nat) (zc:Nat→Int) (lb:Nat) (zb:Nat→Int) (H:aa) (j:Int):aZ (cI n 23 125) (il aX n 0) bo bp (part Tryd.f23 [1,1,1,0,1,0,0]) (hints (mP 3 j)) (iN dr lc zc lb zb::H) =
 (fun (Z0:bL)=>((fun (Z1:aK)=>Tr.ite (da j (Int.ofNat lc)) (Tr.req (dk j lc) (Tr.req (cW (aE 0 j 4) (aq lc 4)) (Tr.req (cW (aG (aE 0 j 4) 1) (aq lc 4)) (Tr.req (cW (aG (aE 0 j 4) 2) (aq lc 4)) (Tr.req (cW (aG (aE 0 j 4) 3) (aq lc 4)) (Tr.ite (da (zc (aE 0 j 4)) (Int.ofNat 0)) (Tr.ok (Ex.ret,Z1,Z0::H)) (Tr.ite (da (zc (aG (aE 0 j 4) 1)) (zc (aE 0 j 4))) (Tr.ok (Ex.ret,Z1,Z0::H)) (Tr.ite (da (Int.ofNat 1000) (zc (aG (aE 0 j 4) 1))) (Tr.ok (Ex.ret,Z1,Z0::H)) (Tr.ite (da (zc (aG (aE 0 j 4) 2)) (Int.ofNat 0)) (Tr.ok (Ex.ret,Z1,Z0::H)) (Tr.ite (da (zc (aG (aE 0 j 4) 3)) (zc (aG (aE 0 j 4) 2))) (Tr.ok (Ex.ret,Z1,Z0::H)) (Tr.ite (da (Int.ofNat 1000) (zc (aG (aE 0 j 4) 3))) (Tr.ok (Ex.ret,Z1,Z0::H)) (Tr.ok (Ex.normal,[(1,AV.ptr 0 0 0 0,none),(3,AV.int .i64 (bz .i64 j (Int.ofNat 1)),none)],Z0::H))))))))))))) (Tr.ok (Ex.exit 0,[(1,AV.ptr 0 0 0 0,none),(3,AV.int .i64 j,none),(36,AV.bool false,some 1)],{ lock:=false,bs:=[(0,av.row (Row.G [AV.int .i64 dr,AV.slcT none (Row.M [aw.arr .i64 zc (aq lc 4)]) 4 lc false,AV.slcT none (Row.M [aw.arr .i64 zb (aq lb 2)]) 2 lb false]))] } :: H))) [(2,AV.int .i64 (Int.ofNat 3),some 1)])) { lock:=false,bs:=[(0,av.row (Row.G [AV.int .i64 dr,AV.slcT none (Row.M [aw.arr .i64 zc (aq lc 4)]) 4 lc false,AV.slcT none (Row.M [aw.arr .i64 zb (aq lb 2)]) 2 lb false])),(0,av.row (Row.I .i64 [zc (aE 0 j 4),zc (aG (aE 0 j 4) 1),zc (aG (aE 0 j 4) 2),zc (aG (aE 0 j 4) 3)]))] }:=by kernel_rfl
theorem Lt (n:Nat) (dr:Int) (lc:Nat) (zc:Nat→Int) (lb:Nat) (zb:Nat→Int) (H:aa) (a b j k:Int):aZ (cI n 23 125) (il aX n 0) bo bp (part Tryd.f23 [1,1,1,1,0,1,0,0,1,0,0,1,1,1,0,0]) (hints (zm j k)) (c6 dr lc zc lb zb [CF a b]::H) =
 (fun (Z0:bL)=>Tr.ite (da k j) (Tr.req (dk k lb) (Tr.req (cW (aE 0 k 2) (aq lb 2)) (Tr.req (cW (aG (aE 0 k 2) 1) (aq lb 2)) (Tr.ite (bY (dC (zb (aE 0 k 2)) a) (dC (zb (aG (aE 0 k 2) 1)) b)) (Tr.ok (Ex.ret,[(2,AV.int .i64 (Int.ofNat 2),some 1)],Z0::H)) (Tr.ok (Ex.normal,[(1,AV.ptr 0 0 0 0,none),(5,AV.int .i64 j,none),(6,AV.ptr 0 1 0 0,none),(7,AV.int .i64 (bz .i64 k (Int.ofNat 1)),none)],Z0::H)))))) (Tr.ok (Ex.exit 4,[(1,AV.ptr 0 0 0 0,none),(5,AV.int .i64 j,none),(6,AV.ptr 0 1 0 0,none),(7,AV.int .i64 k,none),(113,AV.bool false,some 1)],Z0::H))) { lock:=false,bs:=[(0,av.row (Row.G [AV.int .i64 dr,AV.slcT none (Row.M [aw.arr .i64 zc (aq lc 4)]) 4 lc false,AV.slcT none (Row.M [aw.arr .i64 zb (aq lb 2)]) 2 lb false])),(0,av.row (Row.I .i64 [a,b]))] }:=by kernel_rfl
theorem Ov (n:Nat) (dr:Int) (lc:Nat) (zc:Nat→Int) (lb:Nat) (zb:Nat→Int) (H:aa) (j:Int) (e:Bool):aZ (cI (n+1) 23 125) (il aX n 1) (dN bo 4 (zm j (Int.ofNat 0)) (c6 dr lc zc lb zb [CF (zb (aE 0 j 2)) (zb (aG (aE 0 j 2) 1))]::H) (.ite e (.ok (.ret,[(2,.int .i64 2,none)],c6 dr lc zc lb zb [CF (zb (aE 0 j 2)) (zb (aG (aE 0 j 2) 1))]::H)) (.ok (.normal,hints (zm j j++[(113,.bool false)]),c6 dr lc zc lb zb [CF (zb (aE 0 j 2)) (zb (aG (aE 0 j 2) 1))]::H)))) bp (part Tryd.f23 [1,1,1,1,0,1,0,0]) (hints (mP 5 j)) (iN dr lc zc lb zb::H) =
 (fun (Z0:bL)=>((fun (Z1:aK)=>((fun (Z2:az)=>Tr.ite (da j (Int.ofNat lb)) (Tr.req (dk j lb) (Tr.req (cW (aE 0 j 2) (aq lb 2)) (Tr.req (cW (aG (aE 0 j 2) 1) (aq lb 2)) (Tr.req (dk (Int.ofNat 0) 2) (Tr.ite (er (Int.ofNat 0) (zb (aE 0 j 2))) (Tr.ite (cH (da (zb (aE 0 j 2)) (Int.ofNat lc))) (Tr.ok (Ex.ret,Z1,Z0::H)) (Tr.req (dk (Int.ofNat 1) 2) (Tr.ite (er (Int.ofNat 0) (zb (aG (aE 0 j 2) 1))) (Tr.ite (cH (da (zb (aG (aE 0 j 2) 1)) (Int.ofNat lc))) (Tr.ok (Ex.ret,Z1,Z0::H)) (Tr.req (dk (Int.ofNat 0) 2) (Tr.req (dk (Int.ofNat 1) 2) (Tr.ite (dC (zb (aE 0 j 2)) (zb (aG (aE 0 j 2) 1))) (Tr.ok (Ex.ret,Z1,Z0::H)) (Tr.reqP (Z2=Z2∧Z0::H=Z0::H) (Tr.ite e (Tr.ok (Ex.ret,[(2,AV.int .i64 (Int.ofNat 2),none)],Z0::H)) (Tr.ok (Ex.normal,[(1,AV.ptr 0 0 0 0,none),(5,AV.int .i64 (bz .i64 j (Int.ofNat 1)),none)],Z0::H)))))))) (Tr.ok (Ex.ret,Z1,Z0::H))))) (Tr.ok (Ex.ret,Z1,Z0::H))))))) (Tr.ok (Ex.exit 2,[(1,AV.ptr 0 0 0 0,none),(5,AV.int .i64 j,none),(84,AV.bool false,some 1)],{ lock:=false,bs:=[(0,av.row (Row.G [AV.int .i64 dr,AV.slcT none (Row.M [aw.arr .i64 zc (aq lc 4)]) 4 lc false,AV.slcT none (Row.M [aw.arr .i64 zb (aq lb 2)]) 2 lb false]))] } :: H))) [(1,AV.ptr 0 0 0 0),(5,AV.int .i64 j),(6,AV.ptr 0 1 0 0),(7,AV.int .i64 (Int.ofNat 0))])) [(2,AV.int .i64 (Int.ofNat 2),some 1)])) { lock:=false,bs:=[(0,av.row (Row.G [AV.int .i64 dr,AV.slcT none (Row.M [aw.arr .i64 zc (aq lc 4)]) 4 lc false,AV.slcT none (Row.M [aw.arr .i64 zb (aq lb 2)]) 2 lb false])),(0,av.row (Row.I .i64 [zb (aE 0 j 2),zb (aG (aE 0 j 2) 1)]))] }:=by kernel_rfl
theorem Ls (n:Nat) (dr:Int) (lc:Nat) (zc:Nat→Int) (lb:Nat) (zb:Nat→Int) (H:aa) (j:Int):aZ (cI (n+1) 23 125) (il aX n 1) (lT bo 4) bp (part Tryd.f23 [1,1,1,1,0,1,0,0]) (hints (mP 5 j)) (iN dr lc zc lb zb::H) =
 (fun (Z0:bL)=>((fun (Z1:aK)=>Tr.ite (da j (Int.ofNat lb)) (Tr.req (dk j lb) (Tr.req (cW (aE 0 j 2) (aq lb 2)) (Tr.req (cW (aG (aE 0 j 2) 1) (aq lb 2)) (Tr.req (dk (Int.ofNat 0) 2) (Tr.ite (er (Int.ofNat 0) (zb (aE 0 j 2))) (Tr.ite (cH (da (zb (aE 0 j 2)) (Int.ofNat lc))) (Tr.ok (Ex.ret,Z1,Z0::H)) (Tr.req (dk (Int.ofNat 1) 2) (Tr.ite (er (Int.ofNat 0) (zb (aG (aE 0 j 2) 1))) (Tr.ite (cH (da (zb (aG (aE 0 j 2) 1)) (Int.ofNat lc))) (Tr.ok (Ex.ret,Z1,Z0::H)) (Tr.req (dk (Int.ofNat 0) 2) (Tr.req (dk (Int.ofNat 1) 2) (Tr.ite (dC (zb (aE 0 j 2)) (zb (aG (aE 0 j 2) 1))) (Tr.ok (Ex.ret,Z1,Z0::H)) Tr.bad)))) (Tr.ok (Ex.ret,Z1,Z0::H))))) (Tr.ok (Ex.ret,Z1,Z0::H))))))) (Tr.ok (Ex.exit 2,[(1,AV.ptr 0 0 0 0,none),(5,AV.int .i64 j,none),(84,AV.bool false,some 1)],{ lock:=false,bs:=[(0,av.row (Row.G [AV.int .i64 dr,AV.slcT none (Row.M [aw.arr .i64 zc (aq lc 4)]) 4 lc false,AV.slcT none (Row.M [aw.arr .i64 zb (aq lb 2)]) 2 lb false]))] } :: H))) [(2,AV.int .i64 (Int.ofNat 2),some 1)])) { lock:=false,bs:=[(0,av.row (Row.G [AV.int .i64 dr,AV.slcT none (Row.M [aw.arr .i64 zc (aq lc 4)]) 4 lc false,AV.slcT none (Row.M [aw.arr .i64 zb (aq lb 2)]) 2 lb false])),(0,av.row (Row.I .i64 [zb (aE 0 j 2),zb (aG (aE 0 j 2) 1)]))] }:=by kernel_rfl
theorem SC (n:Nat) (dr:Int) (lc:Nat) (zc:Nat→Int) (lb:Nat) (zb:Nat→Int) (H:aa) (e1 e2 e3:Bool) (l1 l2:bL) (C:List AV→Prop):bA Tryd.prog (cd n) 100000 23 Tryd.f23 (KtG.kt 23) (il (mr aX 64 (gB e3 C)) n 0) (dN (dN bo 0 (mP 3 (Int.ofNat 0)) (iN dr lc zc lb zb::H) (.ite e1 (.ok (.ret,[(2,.int .i64 3,none)],l1::H)) (.ok (.normal,hints (mP 3 (Int.ofNat lc)++[(36,.bool false)]),iN dr lc zc lb zb::H)))) 2 (mP 5 (Int.ofNat 0)) (iN dr lc zc lb zb::H) (.ite e2 (.ok (.ret,[(2,.int .i64 2,none)],l2::H)) (.ok (.normal,hints (mP 5 (Int.ofNat lb)++[(84,.bool false)]),iN dr lc zc lb zb::H)))) bp [(df dr lc zc lb zb,none)] H =
 (fun (Z0:Row)=>((fun (Z1:bL)=>Tr.ite (da (Int.ofNat lc) (Int.ofNat 1)) (Tr.ok ((AV.int .i64 (Int.ofNat 6),some 1),H)) (Tr.ite (da (Int.ofNat 10) (Int.ofNat lc)) (Tr.ok ((AV.int .i64 (Int.ofNat 6),some 1),H)) (Tr.ite (da (Int.ofNat 40) (Int.ofNat lb)) (Tr.ok ((AV.int .i64 (Int.ofNat 6),some 1),H)) (Tr.ite (da dr (Int.ofNat 1)) (Tr.ok ((AV.int .i64 (Int.ofNat 3),some 1),H)) (Tr.ite (da (Int.ofNat 100) dr) (Tr.ok ((AV.int .i64 (Int.ofNat 3),some 1),H)) (Tr.reqP ([(1,AV.ptr 0 0 0 0),(3,AV.int .i64 (Int.ofNat 0))]=[(1,AV.ptr 0 0 0 0),(3,AV.int .i64 (Int.ofNat 0))]∧Z1::H=Z1::H) (Tr.ite e1 (Tr.ok ((AV.int .i64 (Int.ofNat 3),none),H)) (Tr.reqP ([(1,AV.ptr 0 0 0 0),(5,AV.int .i64 (Int.ofNat 0))]=[(1,AV.ptr 0 0 0 0),(5,AV.int .i64 (Int.ofNat 0))]∧Z1::H=Z1::H) (Tr.ite e2 (Tr.ok ((AV.int .i64 (Int.ofNat 2),none),H)) (Tr.reqP (C [AV.agg Z0]) (Tr.ite e3 (Tr.ok ((AV.int .i64 (Int.ofNat 16),some 1),H)) (Tr.ok ((AV.int .i64 (Int.ofNat 0),some 1),H))))))))))))) { lock:=false,bs:=[(0,av.row Z0)] })) (Row.G [AV.int .i64 dr,AV.slcT none (Row.M [aw.arr .i64 zc (aq lc 4)]) 4 lc false,AV.slcT none (Row.M [aw.arr .i64 zb (aq lb 2)]) 2 lb false]):=by kernel_rfl
theorem OG (n:Nat) (dr:Int) (lc:Nat) (zc:Nat→Int) (lb:Nat) (zb:Nat→Int) (H:aa):bA Tryd.prog (cd n) 100000 23 Tryd.f23 (KtG.kt 23) (il aX n 0) (lT bo 0) bp [(df dr lc zc lb zb,none)] H =
 Tr.ite (da (Int.ofNat lc) (Int.ofNat 1)) (Tr.ok ((AV.int .i64 (Int.ofNat 6),some 1),H)) (Tr.ite (da (Int.ofNat 10) (Int.ofNat lc)) (Tr.ok ((AV.int .i64 (Int.ofNat 6),some 1),H)) (Tr.ite (da (Int.ofNat 40) (Int.ofNat lb)) (Tr.ok ((AV.int .i64 (Int.ofNat 6),some 1),H)) (Tr.ite (da dr (Int.ofNat 1)) (Tr.ok ((AV.int .i64 (Int.ofNat 3),some 1),H)) (Tr.ite (da (Int.ofNat 100) dr) (Tr.ok ((AV.int .i64 (Int.ofNat 3),some 1),H)) Tr.bad)))):=by kernel_rfl
end Go.Eng
end
section
namespace Go.Eng
open Go.Proofs Go.Eng.Gall
theorem Kb:∀ b,(0,b) ∈ aP (bw Tryd.f23)→b=.loop (part Tryd.f23 [1,1,1,0,1,0,0]):=fJ (by kernel_rfl)
theorem Kc:∀ b,(2,b) ∈ aP (bw Tryd.f23)→b=.loop (part Tryd.f23 [1,1,1,1,0,1,0,0]):=fJ (by kernel_rfl)
theorem Kd:∀ b,(4,b) ∈ aP (part Tryd.f23 [1,1,1,1,0,1,0,0])→b=.loop (part Tryd.f23 [1,1,1,1,0,1,0,0,1,0,0,1,1,1,0,0]):=fJ (by kernel_rfl)
section
variable (n:Nat) (dr:Int) (lc:Nat) (zc:Nat→Int) (lb:Nat) (zb:Nat→Int) (H:aa)
noncomputable def Jd (j:Nat):bL:=c6 dr lc zc lb zb [(0,.row (.I .i64 [zc (j*4),zc (j*4+1),zc (j*4+2),zc (j*4+3)]))]
theorem No (hl:lc≤1000):exec (cI n 23 125) (.block 0 (.loop (part Tryd.f23 [1,1,1,0,1,0,0]))) (mP 3 (Int.ofNat 0)) (iN dr lc zc lb zb::H) =
 some (cond (eV (iR zc) lc) (.ret,[(2,.int .i64 3)],Jd dr lc zc lb zb (fN (iR zc) lc 0)::H) (.normal,mP 3 (Int.ofNat lc)++[(36,.bool false)],iN dr lc zc lb zb::H)):=by
 refine kZ (n:=n) (f:=23) (nt:=125) (c:=part Tryd.f23 [1,1,1,0,1,0,0]) 0 (fun j=>mP 3 (j:Int)) (fun _=>iN dr lc zc lb zb::H) lc (iR zc) (fun j=>([(2,.int .i64 3)],Jd dr lc zc lb zb j::H)) (_,_) (by omega) (fun j hj=>?_) ?_
 · have ej:bz .i64 (j:Int) (Int.ofNat 1)=((j+1:Nat):Int):=gN (by omega)
   have ei:aE 0 (j:Int) 4=j*4:=by rw[bO];omega
   have hs:iR zc j=!(decide (0≤zc (j*4)) && (decide (zc (j*4)≤zc (j*4+1)) && (decide (zc (j*4+1)≤1000) && (decide (0≤zc (j*4+2)) && (decide (zc (j*4+2)≤zc (j*4+3)) && decide (zc (j*4+3)≤1000)))))):=rfl
   have T:=Lr n dr lc zc lb zb H (j:Int)
   rw[ei,aJ,aJ,aJ,ej] at T
   refine aY T (aV _) (ak _ _) (al _ _) ?_
   refine Tr.ag (fun h0=>?_) (fun h0=>by simp (disch:=omega) only[nV,nW] at h0;omega)
   refine Tr.af (by simp (disch:=omega) only[nV,nW];omega) (Tr.af (by simp (disch:=omega) only[nV,nW];omega) (Tr.af (by simp (disch:=omega) only[nV,nW];omega) (Tr.af (by simp (disch:=omega) only[nV,nW];omega) (Tr.af (by simp (disch:=omega) only[nV,nW];omega) ?_))))
   have yes:(¬ (0≤zc (j*4)∧zc (j*4)≤zc (j*4+1)∧zc (j*4+1)≤1000∧0≤zc (j*4+2)∧zc (j*4+2)≤zc (j*4+3)∧zc (j*4+3)≤1000))→iR zc j=true:=fun h=>by rw[hs];simp;omega
   refine Tr.ag (fun q1=>Tr.ah ?_) (fun q1=>Tr.ag (fun q2=>Tr.ah ?_) (fun q2=>Tr.ag (fun q3=>Tr.ah ?_) (fun q3=>Tr.ag (fun q4=>Tr.ah ?_) (fun q4=>Tr.ag (fun q5=>Tr.ah ?_) (fun q5=>Tr.ag (fun q6=>Tr.ah ?_) (fun q6=>Tr.ah ?_))))))
   · rw[br,decide_eq_true_iff] at q1
     rw[if_pos (yes (by have:zc (j*4)<0:=q1;omega))];rfl
   · rw[br,decide_eq_true_iff] at q2
     rw[if_pos (yes (by omega))];rfl
   · rw[br,decide_eq_true_iff] at q3
     rw[if_pos (yes (by have:1000<zc (j*4+1):=q3;omega))];rfl
   · rw[br,decide_eq_true_iff] at q4
     rw[if_pos (yes (by have:zc (j*4+2)<0:=q4;omega))];rfl
   · rw[br,decide_eq_true_iff] at q5
     rw[if_pos (yes (by omega))];rfl
   · rw[br,decide_eq_true_iff] at q6
     rw[if_pos (yes (by have:1000<zc (j*4+3):=q6;omega))];rfl
   · rw[br,decide_eq_false_iff_not] at q1 q2 q3 q4 q5 q6
     have q1:¬ zc (j*4)<0:=q1
     have q3:¬ 1000<zc (j*4+1):=q3
     have q4:¬ zc (j*4+2)<0:=q4
     have q6:¬ 1000<zc (j*4+3):=q6
     rw[if_neg (by rw[hs];simp;omega)]
     exact ⟨rfl,rfl⟩
 · obtain ⟨x,h1,rfl⟩:=aY (Q:=fun x=>x=(.exit 0,mP 3 (Int.ofNat lc)++[(36,.bool false)],iN dr lc zc lb zb::H)) (Lr n dr lc zc lb zb H (Int.ofNat lc)) (aV _) (ak _ _) (al _ _) (by
    refine Tr.ag (fun h0=>by simp (disch:=omega) only[nV,nW] at h0;omega) (fun h0=>Tr.ah rfl))
   exact h1
theorem Ns (a b:Int) (j:Nat) (hj:j≤lb) (hb:lb≤1000):exec (cI n 23 125) (.block 4 (.loop (part Tryd.f23 [1,1,1,1,0,1,0,0,1,0,0,1,1,1,0,0]))) (zm (j:Int) (Int.ofNat 0)) (c6 dr lc zc lb zb [CF a b]::H) =
 some (cond (eV (iQ zb a b) j) (.ret,[(2,.int .i64 2)],c6 dr lc zc lb zb [CF a b]::H) (.normal,zm (j:Int) (j:Int)++[(113,.bool false)],c6 dr lc zc lb zb [CF a b]::H)):=by
 refine kZ (n:=n) (f:=23) (nt:=125) (c:=part Tryd.f23 [1,1,1,1,0,1,0,0,1,0,0,1,1,1,0,0]) 4 (fun k=>zm (j:Int) (k:Int)) (fun _=>c6 dr lc zc lb zb [CF a b]::H) j (iQ zb a b) (fun k=>([(2,.int .i64 2)],c6 dr lc zc lb zb [CF a b]::H)) (_,_) (by omega) (fun k hk=>?_) ?_
 · have ek:bz .i64 (k:Int) (Int.ofNat 1)=((k+1:Nat):Int):=gN (by omega)
   have ei:aE 0 (k:Int) 2=k*2:=by rw[bO];omega
   have hp:bY (dC (zb (k*2)) a) (dC (zb (k*2+1)) b)=iQ zb a b k:=by
    rw[bP,bh,bh];unfold iQ
    rw[Bool.eq_iff_iff];simp
    constructor<;>(rintro ⟨h1,h2⟩;exact ⟨h1.symm,h2.symm⟩)
   have T:=Lt n dr lc zc lb zb H a b (j:Int) (k:Int)
   rw[ei,aJ,ek,hp] at T
   refine aY T (aV _) (ak _ _) (al _ _) ?_
   refine Tr.ag (fun h0=>?_) (fun h0=>by simp (disch:=omega) only[nV,nW] at h0;omega)
   refine Tr.af (by simp (disch:=omega) only[nV,nW];omega) (Tr.af (by simp (disch:=omega) only[nV,nW];omega) (Tr.af (by simp (disch:=omega) only[nV,nW];omega) (Tr.ag (fun q=>Tr.ah ?_) (fun q=>Tr.ah ?_))))
   · rw[if_pos q];rfl
   · rw[if_neg (by rw[q];decide)];exact ⟨rfl,rfl⟩
 · obtain ⟨x,h1,rfl⟩:=aY (Q:=fun x=>x=(.exit 4,zm (j:Int) (j:Int)++[(113,.bool false)],c6 dr lc zc lb zb [CF a b]::H)) (Lt n dr lc zc lb zb H a b (j:Int) (j:Int)) (aV _) (ak _ _) (al _ _) (by
    refine Tr.ag (fun h0=>by simp (disch:=omega) only[nV,nW] at h0;omega) (fun h0=>Tr.ah rfl))
   exact h1
theorem Nq   (hl:lc≤1000) (hb:lb≤1000):exec (cI (n+1) 23 125) (.block 2 (.loop (part Tryd.f23 [1,1,1,1,0,1,0,0]))) (mP 5 (Int.ofNat 0)) (iN dr lc zc lb zb::H) =
 some (cond (eV (gE lc zb) lb) (.ret,[(2,.int .i64 2)],c6 dr lc zc lb zb [CF (zb (fN (gE lc zb) lb 0*2)) (zb (fN (gE lc zb) lb 0*2+1))]::H) (.normal,mP 5 (Int.ofNat lb)++[(84,.bool false)],iN dr lc zc lb zb::H)):=by
 refine kZ (n:=n+1) (f:=23) (nt:=125) (c:=part Tryd.f23 [1,1,1,1,0,1,0,0]) 2 (fun j=>mP 5 (j:Int)) (fun _=>iN dr lc zc lb zb::H) lb (gE lc zb) (fun j=>([(2,.int .i64 2)],c6 dr lc zc lb zb [CF (zb (j*2)) (zb (j*2+1))]::H)) (_,_) (by omega) (fun j hj=>?_) ?_
 · have ej : bz .i64 (j:Int) (Int.ofNat 1)=((j+1:Nat):Int):=gN (by omega)
   have ei:aE 0 (j:Int) 2=j*2:=by rw[bO];omega
   have T:=Ov n dr lc zc lb zb H (j:Int) (eV (iQ zb (zb (j*2)) (zb (j*2+1))) j)
   rw[ei,aJ,ej] at T
   refine aY T (gI n 1) (bu (ak _ _) Kd (fun x h=>fm h (Ns (n+1) dr lc zc lb zb H _ _ j (by omega) hb))) (al _ _) ?_
   refine Tr.ag (fun h0=>?_) (fun h0=>by simp (disch:=omega) only[nV,nW] at h0;omega)
   refine Tr.af (by simp (disch:=omega) only[nV,nW];omega) (Tr.af (by simp (disch:=omega) only[nV,nW];omega) (Tr.af (by simp (disch:=omega) only[nV,nW];omega) (Tr.af (by simp (disch:=omega) only[nV,nW];omega) ?_)))
   have yes:(zb (j*2)=zb (j*2+1)∨¬ (0≤zb (j*2)∧zb (j*2)<lc)∨¬ (0≤zb (j*2+1)∧zb (j*2+1)<lc))→gE lc zb j=true:=fun h=>by
    unfold gE
    rcases h with h | h | h
    · rw[decide_eq_true h];rfl
    · rw[decide_eq_false h];simp
    · rw[decide_eq_false h];simp
   refine Tr.ag (fun q1=>?_) (fun q1=>Tr.ah ?_)
   · rw[bt,decide_eq_true_iff] at q1
     have q1:0≤zb (j*2):=q1
     refine Tr.ag (fun q2=>Tr.ah ?_) (fun q2=>?_)
     · rw[aS,br] at q2
       have q2:¬ zb (j*2)<(lc:Int):=by simpa using q2
       rw[if_pos (yes (.inr (.inl (by omega))))];rfl
     · rw[aS,br] at q2
       have q2:zb (j*2)<(lc:Int):=by simpa using q2
       refine Tr.af (by simp (disch:=omega) only[nV,nW];omega) (Tr.ag (fun q3=>?_) (fun q3=>Tr.ah ?_))
       · rw[bt,decide_eq_true_iff] at q3
         have q3:0≤zb (j*2+1):=q3
         refine Tr.ag (fun q4=>Tr.ah ?_) (fun q4=>?_)
         · rw[aS,br] at q4
           have q4:¬ zb (j*2+1)<(lc:Int):=by simpa using q4
           rw[if_pos (yes (.inr (.inr (by omega))))];rfl
         · rw[aS,br] at q4
           have q4:zb (j*2+1)<(lc:Int):=by simpa using q4
           refine Tr.af (by simp (disch:=omega) only[nV,nW];omega) (Tr.af (by simp (disch:=omega) only[nV,nW];omega) (Tr.ag (fun q5=>Tr.ah ?_) (fun q5=>?_)))
           · rw[bh,beq_iff_eq] at q5
             rw[if_pos (yes (.inl q5))];rfl
           · rw[bh,beq_eq_false_iff_ne] at q5
             refine Tr.an ⟨rfl,rfl⟩ (Tr.ag (fun q6=>Tr.ah ?_) (fun q6=>Tr.ah ?_))
             · rw[if_pos (by unfold gE;rw[q6];simp)];rfl
             · rw[if_neg (by unfold gE;rw[q6,decide_eq_false q5,decide_eq_true ⟨q1,q2⟩,decide_eq_true ⟨q3,q4⟩];decide)]
               exact ⟨rfl,rfl⟩
       · rw[bt,decide_eq_false_iff_not] at q3
         have q3:¬ 0≤zb (j*2+1):=q3
         rw[if_pos (yes (.inr (.inr (by omega))))];rfl
   · rw[bt,decide_eq_false_iff_not] at q1
     have q1:¬ 0≤zb (j*2):=q1
     rw[if_pos (yes (.inr (.inl (by omega))))];rfl
 · obtain ⟨x,h1,rfl⟩:=aY (Q:=fun x=>x=(.exit 2,mP 5 (Int.ofNat lb)++[(84,.bool false)],iN dr lc zc lb zb::H)) (Ls n dr lc zc lb zb H (Int.ofNat lb)) (gI n 1) (fB (ak _ _) 4) (al _ _) (by
    refine Tr.ag (fun h0=>by simp (disch:=omega) only[nV,nW] at h0;omega) (fun h0=>Tr.ah rfl))
   exact h1
theorem PB (hl:lc≤1000) (hb:lb≤1000):cd (n+3) (.fn 23) [df dr lc zc lb zb] H=some (.int .i64 (gh dr lc zc lb zb),H):=by
 by_cases k0:1≤lc∧lc≤10∧lb≤40
 · obtain ⟨k1,k2,k3⟩:=k0
   have ht:(mr aX 64 (gB (kK lc (fun c=>eu zb c lb)) (fun A=>A=[df dr lc zc lb zb]∧fi lc lb zb))).Ok (cd (n+2)):=wL (bG _) (fun A H hA=>by
    obtain ⟨rfl,hp⟩:=hA
    exact Qj n dr lc zc lb zb H k2 k1 hb hp)
   refine bN (n:=n+2) Tryd.func23 rfl rfl rfl (SC (n+2) dr lc zc lb zb H (eV (iR zc) lc) (eV (gE lc zb) lb) (kK lc (fun c=>eu zb c lb)) (Jd dr lc zc lb zb (fN (iR zc) lc 0)) (c6 dr lc zc lb zb [CF (zb (fN (gE lc zb) lb 0*2)) (zb (fN (gE lc zb) lb 0*2+1))]) (fun A=>A=[df dr lc zc lb zb]∧fi lc lb zb)) (cK _ _ ht) (bu (bu (ak _ _) Kb (fun y h=>fm h (No (n+2) dr lc zc lb zb H hl))) Kc (fun y h=>fm h (Nq (n+1) dr lc zc lb zb H hl hb))) (al _ _) ?_
   have hG:gh dr lc zc lb zb=if dr<1∨100<dr∨eV (iR zc) lc=true then 3 else if eV (gE lc zb) lb=true then 2 else if kK lc (fun c=>eu zb c lb)=true then 16 else 0:=by unfold gh;rw[if_neg (by omega)]
   rw[hG]
   refine Tr.ag (fun q=>by exfalso;simp (disch:=omega) only[nV,nW] at q;omega) (fun _=>Tr.ag (fun q=>by exfalso;simp (disch:=omega) only[nV,nW] at q;omega) (fun _=>Tr.ag (fun q=>by exfalso;simp (disch:=omega) only[nV,nW] at q;omega) (fun _=>?_)))
   refine Tr.ag (fun q=>?_) (fun q=>Tr.ag (fun q'=>?_) (fun q'=>?_))
   · rw[br,decide_eq_true_iff] at q
     rw[if_pos (.inl q)];exact Tr.ah ⟨rfl,rfl⟩
   · rw[br,decide_eq_true_iff] at q'
     rw[if_pos (.inr (.inl q'))];exact Tr.ah ⟨rfl,rfl⟩
   · rw[br,decide_eq_false_iff_not] at q q'
     have q:¬ dr<1:=q
     have q':¬ 100<dr:=q'
     refine Tr.an ⟨rfl,rfl⟩ (Tr.ag (fun r=>?_) (fun r=>?_))
     · rw[if_pos (.inr (.inr r))];exact Tr.ah ⟨rfl,rfl⟩
     · rw[if_neg (by rintro (h | h | h);omega;omega;rw[r] at h;cases h)]
       refine Tr.an ⟨rfl,rfl⟩ (Tr.ag (fun u=>?_) (fun u=>?_))
       · rw[if_pos u];exact Tr.ah ⟨rfl,rfl⟩
       · rw[if_neg (by rw[u];decide)]
         refine Tr.an ⟨rfl,oD u⟩ (Tr.ag (fun w=>?_) (fun w=>?_))
         · rw[if_pos w];exact Tr.ah ⟨rfl,rfl⟩
         · rw[if_neg (by rw[w];decide)];exact Tr.ah ⟨rfl,rfl⟩
 · refine bN (n:=n+2) Tryd.func23 rfl rfl rfl (OG (n+2) dr lc zc lb zb H) (aV _) (fB (ak _ _) 0) (al _ _) ?_
   have hG:gh dr lc zc lb zb=6:=by unfold gh;rw[if_pos (by omega)]
   rw[hG]
   refine Tr.ag (fun q=>Tr.ah ⟨rfl,rfl⟩) (fun q=>Tr.ag (fun q2=>Tr.ah ⟨rfl,rfl⟩) (fun q2=>Tr.ag (fun q3=>Tr.ah ⟨rfl,rfl⟩) (fun q3=>?_)))
   exfalso
   simp (disch:=omega) only[nV,nW] at q
   simp (disch:=omega) only[nV,nW] at q2
   simp (disch:=omega) only[nV,nW] at q3
   omega
end
end Go.Eng
end
