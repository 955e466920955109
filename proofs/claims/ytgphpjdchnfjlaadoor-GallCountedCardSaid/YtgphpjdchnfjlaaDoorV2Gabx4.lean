/- Gall: back, by the reference: its loops. Printed by mkGab.py. -/
import Derived.Test.YtgphpjdchnfjlaaDoorV2Ga8x3
set_option linter.unusedVariables false
set_option linter.unusedSimpArgs false
set_option maxRecDepth 100000
section
namespace Go.Eng
open Go.Proofs Go.Eng.Gall
noncomputable def LL (lc:Nat):Nat:=bR (Int.ofNat lc)
theorem Ba (lc:Nat):LL lc=lc:=by unfold LL;rw[lf];rfl
theorem Lo (n:Nat) (dr:Int) (lc L:Nat) (zc:Nat→Int) (lb:Nat) (zb:Nat→Int) (H:aa) (y x:Nat→Int) (t a:Int):aW (cj n 64 66) (il a6 n 0) (jB bp 6) br (part Tryd.f64 [1,1,1,1,0,1,0,0,1,0,0,1,0,1,0,0]) (hints (lM 1 lc L t a)) (eF dr lc zc lb zb [cr L y,cr L x]::H) =
 Tr.ite (bO a (Int.ofNat lc)) Tr.bad (Tr.ok (Ex.exit 4,[(1,AV.ptr 0 0 0 0,none),(3,AV.int .i64 (Int.ofNat lc),none),(4,AV.slc 0 1 0 0 1 L (some L),none),(6,AV.int .i64 t,none),(7,AV.slc 0 2 0 0 1 L (some L),none),(8,AV.int .i64 a,none),(33,AV.bool false,some 1)],{ lock:=false,bs:=[(0,aq.row (Row.G [AV.int .i64 dr,AV.slcT none (Row.M [an.arr .i64 zc (ar lc 4)]) 4 lc false,AV.slcT none (Row.M [an.arr .i64 zb (ar lb 2)]) 2 lb false])),(0,aq.row (Row.M [an.arr .i64 y L])),(0,aq.row (Row.M [an.arr .i64 x L]))] } :: H)):=by kernel_rfl
theorem Lp (n:Nat) (dr:Int) (lc L:Nat) (zc:Nat→Int) (lb:Nat) (zb:Nat→Int) (H:aa) (g:Nat→Int) (y x:Nat→Int) (t a:Int):aW (cj n 64 66) (il a6 n 0) (jB bp 6) br (part Tryd.f64 [1,1,1,1,0,1,0,0,1,0,0,1,0,1,0,0]) (hints (lM 2 lc L t a)) (eF dr lc zc lb zb [cr L g,cr L y,cr L x]::H) =
 Tr.ite (bO a (Int.ofNat lc)) Tr.bad (Tr.ok (Ex.exit 4,[(1,AV.ptr 0 0 0 0,none),(3,AV.int .i64 (Int.ofNat lc),none),(4,AV.slc 0 2 0 0 1 L (some L),none),(6,AV.int .i64 t,none),(7,AV.slc 0 3 0 0 1 L (some L),none),(8,AV.int .i64 a,none),(33,AV.bool false,some 1)],{ lock:=false,bs:=[(0,aq.row (Row.G [AV.int .i64 dr,AV.slcT none (Row.M [an.arr .i64 zc (ar lc 4)]) 4 lc false,AV.slcT none (Row.M [an.arr .i64 zb (ar lb 2)]) 2 lb false])),(0,aq.row (Row.M [an.arr .i64 g L])),(0,aq.row (Row.M [an.arr .i64 y L])),(0,aq.row (Row.M [an.arr .i64 x L]))] } :: H)):=by kernel_rfl
theorem Lq (n:Nat) (dr:Int) (lc L:Nat) (zc:Nat→Int) (lb:Nat) (zb:Nat→Int) (H:aa) (g:Nat→Int) (y:Nat→Int) (t:Int):aW (cj n 64 66) (il a6 n 0) (jB bp 4) br (part Tryd.f64 [1,1,1,1,0,1,0,0]) (hints (mV 2 lc L 6 t)) (eF dr lc zc lb zb [cr L g,cr L y]::H) =
 Tr.ite (bO t (Int.ofNat lc)) (Tr.req (DP (Int.ofNat lc) (Int.ofNat lc) 8) Tr.bad) (Tr.ok (Ex.exit 2,[(1,AV.ptr 0 0 0 0,none),(3,AV.int .i64 (Int.ofNat lc),none),(4,AV.slc 0 2 0 0 1 L (some L),none),(6,AV.int .i64 t,none),(26,AV.bool false,some 1)],{ lock:=false,bs:=[(0,aq.row (Row.G [AV.int .i64 dr,AV.slcT none (Row.M [an.arr .i64 zc (ar lc 4)]) 4 lc false,AV.slcT none (Row.M [an.arr .i64 zb (ar lb 2)]) 2 lb false])),(0,aq.row (Row.M [an.arr .i64 g L])),(0,aq.row (Row.M [an.arr .i64 y L]))] } :: H)):=by kernel_rfl
section
variable (n:Nat) (dr:Int) (lc:Nat) (zc:Nat→Int) (lb:Nat) (zb:Nat→Int) (b:Nat→Nat) (H:aa)
theorem TV (t a:Nat) (hl:lc≤10) (hb:lb≤1000) (ha:a<lc) (ti:Int):exec (cj (n+1) 64 66) (.block 6 (.loop (part Tryd.f64 [1,1,1,1,0,1,0,0,1,0,0,1,0,1,0,0,1,0,0,1,0,0]))) (oE 1 lc (LL lc) ti (a:Int) (Int.ofNat 0)) (eF dr lc zc lb zb [cr (LL lc) (c5 (bD lc b t)),cr (LL lc) (c5 (tM lc lb zb b t a 0))]::H) =
 some (.normal,oE 1 lc (LL lc) ti (a:Int) (Int.ofNat lc)++[(38,.bool false)],eF dr lc zc lb zb [cr (LL lc) (c5 (bD lc b t)),cr (LL lc) (c5 (tM lc lb zb b t a lc))]::H):=by
 have eL:=Ba lc
 refine kG (n:=n+1) (f:=64) (nt:=66) (c:=part Tryd.f64 [1,1,1,1,0,1,0,0,1,0,0,1,0,1,0,0,1,0,0,1,0,0]) 6 (fun c=>oE 1 lc (LL lc) ti (a:Int) (c:Int)) (fun c=>eF dr lc zc lb zb [cr (LL lc) (c5 (bD lc b t)),cr (LL lc) (c5 (tM lc lb zb b t a c))]::H) lc (_,_) (by omega) (fun c hc=>?_) ?_
 · have ec:bg .i64 (c:Int) (Int.ofNat 1)=((c+1:Nat):Int):=gr (by omega)
   have T:=I1 (n+1) dr lc (LL lc) zc lb zb H (c5 (bD lc b t)) (c5 (tM lc lb zb b t a c)) (rq lb zb) ti (a:Int) (c:Int)
   rw[DN,DN,ec,Az] at T
   refine aK T (bZ _ _ (vZ dr lc zc lb zb (by omega) hb)) (ak _ _) (al _ _) ?_
   refine Tr.af (fun h0=>?_) (fun h0=>by simp (disch:=omega) only[nV,nW] at h0;omega)
   refine Tr.ab (by rw[eL];simp (disch:=omega) only[nV,nW];omega) (Tr.ab (by simp (disch:=omega) only[nV,nW]) (Tr.ab (by rw[eL];simp (disch:=omega) only[nV,nW];omega) (Tr.af (fun q=>?_) (fun q=>?_))))
   · refine Tr.aj rfl (Tr.af (fun r=>?_) (fun r=>?_))
     · refine Tr.ab (by rw[eL];simp (disch:=omega) only[nV,nW];omega) (Tr.ab (by simp (disch:=omega) only[nV,nW]) (Tr.ab (by rw[eL];simp (disch:=omega) only[nV,nW];omega) (Tr.ah ⟨rfl,?_⟩)))
       rw[Ca lc lb zb b t a c (by rw[q,r];rfl)];rfl
     · refine Tr.ah ⟨rfl,?_⟩
       rw[rm lc lb zb b t a c (by rw[q,r];rfl)];rfl
   · refine Tr.ah ⟨rfl,?_⟩
     rw[rm lc lb zb b t a c (by rw[q];rfl)];rfl
 · obtain ⟨x,h1,rfl⟩:=aK (Q:=fun x=>x=(.exit 6,oE 1 lc (LL lc) ti (a:Int) (Int.ofNat lc)++[(38,.bool false)],eF dr lc zc lb zb [cr (LL lc) (c5 (bD lc b t)),cr (LL lc) (c5 (tM lc lb zb b t a lc))]::H)) (I1 (n+1) dr lc (LL lc) zc lb zb H (c5 (bD lc b t)) (c5 (tM lc lb zb b t a lc)) (rq lb zb) ti (a:Int) (Int.ofNat lc)) (bZ _ _ (vZ dr lc zc lb zb (by omega) hb)) (ak _ _) (al _ _) (by
    refine Tr.af (fun h0=>by simp (disch:=omega) only[nV,nW] at h0;omega) (fun h0=>Tr.ah rfl))
   exact h1
theorem TT (t:Nat) (hl:lc≤10) (hb:lb≤1000) (ti:Int):exec (cj (n+1) 64 66) (.block 4 (.loop (part Tryd.f64 [1,1,1,1,0,1,0,0,1,0,0,1,0,1,0,0]))) (lM 1 lc (LL lc) ti (Int.ofNat 0)) (eF dr lc zc lb zb [cr (LL lc) (c5 (bD lc b t)),cr (LL lc) (c5 (tL lc lb zb b t 0))]::H) =
 some (.normal,lM 1 lc (LL lc) ti (Int.ofNat lc)++[(33,.bool false)],eF dr lc zc lb zb [cr (LL lc) (c5 (bD lc b t)),cr (LL lc) (c5 (tL lc lb zb b t lc))]::H):=by
 refine kG (n:=n+1) (f:=64) (nt:=66) (c:=part Tryd.f64 [1,1,1,1,0,1,0,0,1,0,0,1,0,1,0,0]) 4 (fun a=>lM 1 lc (LL lc) ti (a:Int)) (fun a=>eF dr lc zc lb zb [cr (LL lc) (c5 (bD lc b t)),cr (LL lc) (c5 (tL lc lb zb b t a))]::H) lc (_,_) (by omega) (fun a ha=>?_) ?_
 · have ec:bg .i64 (a:Int) (Int.ofNat 1)=((a+1:Nat):Int):=gr (by omega)
   have hC:=TV n dr lc zc lb zb b H t a hl hb ha ti
   rw[IS,B9] at hC
   have T:=Nt (n+1) dr lc (LL lc) zc lb zb H (c5 (bD lc b t)) (c5 (tL lc lb zb b t a)) (c5 (tL lc lb zb b t (a+1))) ti (a:Int)
   rw[ec] at T
   refine aK T (aJ _) (a8 (ak _ _) Iy (fun x h=>by rw[← Tr.ae h];simp only[fq.st,aV];exact hC)) (al _ _) ?_
   refine Tr.af (fun h0=>Tr.aj ⟨rfl,rfl⟩ (Tr.ah ⟨rfl,rfl⟩)) (fun h0=>by simp (disch:=omega) only[nV,nW] at h0;omega)
 · obtain ⟨x,h1,rfl⟩:=aK (Q:=fun x=>x=(.exit 4,lM 1 lc (LL lc) ti (Int.ofNat lc)++[(33,.bool false)],eF dr lc zc lb zb [cr (LL lc) (c5 (bD lc b t)),cr (LL lc) (c5 (tL lc lb zb b t lc))]::H)) (Lo (n+1) dr lc (LL lc) zc lb zb H (c5 (bD lc b t)) (c5 (tL lc lb zb b t lc)) ti (Int.ofNat lc)) (aJ _) (dJ (ak _ _) 6) (al _ _) (by
    refine Tr.af (fun h0=>by simp (disch:=omega) only[nV,nW] at h0;omega) (fun h0=>Tr.ah rfl))
   exact h1
theorem TW (g:Nat→Int) (t a:Nat) (hl:lc≤10) (hb:lb≤1000) (ha:a<lc) (ti:Int):exec (cj (n+1) 64 66) (.block 6 (.loop (part Tryd.f64 [1,1,1,1,0,1,0,0,1,0,0,1,0,1,0,0,1,0,0,1,0,0]))) (oE 2 lc (LL lc) ti (a:Int) (Int.ofNat 0)) (eF dr lc zc lb zb [cr (LL lc) g,cr (LL lc) (c5 (bD lc b t)),cr (LL lc) (c5 (tM lc lb zb b t a 0))]::H) =
 some (.normal,oE 2 lc (LL lc) ti (a:Int) (Int.ofNat lc)++[(38,.bool false)],eF dr lc zc lb zb [cr (LL lc) g,cr (LL lc) (c5 (bD lc b t)),cr (LL lc) (c5 (tM lc lb zb b t a lc))]::H):=by
 have eL:=Ba lc
 refine kG (n:=n+1) (f:=64) (nt:=66) (c:=part Tryd.f64 [1,1,1,1,0,1,0,0,1,0,0,1,0,1,0,0,1,0,0,1,0,0]) 6 (fun c=>oE 2 lc (LL lc) ti (a:Int) (c:Int)) (fun c=>eF dr lc zc lb zb [cr (LL lc) g,cr (LL lc) (c5 (bD lc b t)),cr (LL lc) (c5 (tM lc lb zb b t a c))]::H) lc (_,_) (by omega) (fun c hc=>?_) ?_
 · have ec:bg .i64 (c:Int) (Int.ofNat 1)=((c+1:Nat):Int):=gr (by omega)
   have T:=I2 (n+1) dr lc (LL lc) zc lb zb H g (c5 (bD lc b t)) (c5 (tM lc lb zb b t a c)) (rq lb zb) ti (a:Int) (c:Int)
   rw[DN,DN,ec,Az] at T
   refine aK T (bZ _ _ (vZ dr lc zc lb zb (by omega) hb)) (ak _ _) (al _ _) ?_
   refine Tr.af (fun h0=>?_) (fun h0=>by simp (disch:=omega) only[nV,nW] at h0;omega)
   refine Tr.ab (by rw[eL];simp (disch:=omega) only[nV,nW];omega) (Tr.ab (by simp (disch:=omega) only[nV,nW]) (Tr.ab (by rw[eL];simp (disch:=omega) only[nV,nW];omega) (Tr.af (fun q=>?_) (fun q=>?_))))
   · refine Tr.aj rfl (Tr.af (fun r=>?_) (fun r=>?_))
     · refine Tr.ab (by rw[eL];simp (disch:=omega) only[nV,nW];omega) (Tr.ab (by simp (disch:=omega) only[nV,nW]) (Tr.ab (by rw[eL];simp (disch:=omega) only[nV,nW];omega) (Tr.ah ⟨rfl,?_⟩)))
       rw[Ca lc lb zb b t a c (by rw[q,r];rfl)];rfl
     · refine Tr.ah ⟨rfl,?_⟩
       rw[rm lc lb zb b t a c (by rw[q,r];rfl)];rfl
   · refine Tr.ah ⟨rfl,?_⟩
     rw[rm lc lb zb b t a c (by rw[q];rfl)];rfl
 · obtain ⟨x,h1,rfl⟩:=aK (Q:=fun x=>x=(.exit 6,oE 2 lc (LL lc) ti (a:Int) (Int.ofNat lc)++[(38,.bool false)],eF dr lc zc lb zb [cr (LL lc) g,cr (LL lc) (c5 (bD lc b t)),cr (LL lc) (c5 (tM lc lb zb b t a lc))]::H)) (I2 (n+1) dr lc (LL lc) zc lb zb H g (c5 (bD lc b t)) (c5 (tM lc lb zb b t a lc)) (rq lb zb) ti (a:Int) (Int.ofNat lc)) (bZ _ _ (vZ dr lc zc lb zb (by omega) hb)) (ak _ _) (al _ _) (by
    refine Tr.af (fun h0=>by simp (disch:=omega) only[nV,nW] at h0;omega) (fun h0=>Tr.ah rfl))
   exact h1
theorem TU (g:Nat→Int) (t:Nat) (hl:lc≤10) (hb:lb≤1000) (ti:Int):exec (cj (n+1) 64 66) (.block 4 (.loop (part Tryd.f64 [1,1,1,1,0,1,0,0,1,0,0,1,0,1,0,0]))) (lM 2 lc (LL lc) ti (Int.ofNat 0)) (eF dr lc zc lb zb [cr (LL lc) g,cr (LL lc) (c5 (bD lc b t)),cr (LL lc) (c5 (tL lc lb zb b t 0))]::H) =
 some (.normal,lM 2 lc (LL lc) ti (Int.ofNat lc)++[(33,.bool false)],eF dr lc zc lb zb [cr (LL lc) g,cr (LL lc) (c5 (bD lc b t)),cr (LL lc) (c5 (tL lc lb zb b t lc))]::H):=by
 refine kG (n:=n+1) (f:=64) (nt:=66) (c:=part Tryd.f64 [1,1,1,1,0,1,0,0,1,0,0,1,0,1,0,0]) 4 (fun a=>lM 2 lc (LL lc) ti (a:Int)) (fun a=>eF dr lc zc lb zb [cr (LL lc) g,cr (LL lc) (c5 (bD lc b t)),cr (LL lc) (c5 (tL lc lb zb b t a))]::H) lc (_,_) (by omega) (fun a ha=>?_) ?_
 · have ec:bg .i64 (a:Int) (Int.ofNat 1)=((a+1:Nat):Int):=gr (by omega)
   have hC:=TW n dr lc zc lb zb b H g t a hl hb ha ti
   rw[IS,B9] at hC
   have T:=Nu (n+1) dr lc (LL lc) zc lb zb H g (c5 (bD lc b t)) (c5 (tL lc lb zb b t a)) (c5 (tL lc lb zb b t (a+1))) ti (a:Int)
   rw[ec] at T
   refine aK T (aJ _) (a8 (ak _ _) Iy (fun x h=>by rw[← Tr.ae h];simp only[fq.st,aV];exact hC)) (al _ _) ?_
   refine Tr.af (fun h0=>Tr.aj ⟨rfl,rfl⟩ (Tr.ah ⟨rfl,rfl⟩)) (fun h0=>by simp (disch:=omega) only[nV,nW] at h0;omega)
 · obtain ⟨x,h1,rfl⟩:=aK (Q:=fun x=>x=(.exit 4,lM 2 lc (LL lc) ti (Int.ofNat lc)++[(33,.bool false)],eF dr lc zc lb zb [cr (LL lc) g,cr (LL lc) (c5 (bD lc b t)),cr (LL lc) (c5 (tL lc lb zb b t lc))]::H)) (Lp (n+1) dr lc (LL lc) zc lb zb H g (c5 (bD lc b t)) (c5 (tL lc lb zb b t lc)) ti (Int.ofNat lc)) (aJ _) (dJ (ak _ _) 6) (al _ _) (by
    refine Tr.af (fun h0=>by simp (disch:=omega) only[nV,nW] at h0;omega) (fun h0=>Tr.ah rfl))
   exact h1
end
end Go.Eng
end
section
namespace Go.Eng
open Go.Proofs Go.Eng.Gall
theorem Ki (p:Nat→Bool) (n:Nat):eK p n=(List.range n).any p:=by
 rw[Bool.eq_iff_iff,dq,List.any_eq_true]
 constructor
 · rintro ⟨i,h1,h2⟩;exact ⟨i,List.mem_range.2 h1,h2⟩
 · rintro ⟨i,h1,h2⟩;exact ⟨i,List.mem_range.1 h1,h2⟩
section
variable (n:Nat) (dr:Int) (lc:Nat) (zc:Nat→Int) (lb:Nat) (zb:Nat→Int) (b:Nat→Nat) (H:aa)
theorem TZ:c5 (fun c=>decide (c<0))=fun _=>Int.ofNat 0:=by funext j;unfold c5;simp
theorem Hk (j:Nat):eW (c5 (fun c=>decide (c<j))) j (Int.ofNat 1)=c5 (fun c=>decide (c<j+1)):=by
 rw[lg];funext c;unfold c5
 by_cases e:c=j
 · subst e;rw[if_pos rfl,if_pos (by simp)];rfl
 · rw[if_neg e]
   by_cases h:c<j
   · rw[if_pos (decide_eq_true h),if_pos (decide_eq_true (by omega))]
   · rw[if_neg (by simpa using h),if_neg (by simp;omega)]
theorem Pj (hl:lc≤10):exec (cj (n+1) 64 66) (.block 0 (.loop (part Tryd.f64 [1,1,1,0,1,0,0]))) (mV 1 lc (LL lc) 5 (Int.ofNat 0)) (eF dr lc zc lb zb [cr (LL lc) (c5 (fun c=>decide (c<0)))]::H) =
 some (.normal,mV 1 lc (LL lc) 5 (Int.ofNat lc)++[(18,.bool false)],eF dr lc zc lb zb [cr (LL lc) (c5 (fun c=>decide (c<lc)))]::H):=by
 have eL:=Ba lc
 refine kG (n:=n+1) (f:=64) (nt:=66) (c:=part Tryd.f64 [1,1,1,0,1,0,0]) 0 (fun j=>mV 1 lc (LL lc) 5 (j:Int)) (fun j=>eF dr lc zc lb zb [cr (LL lc) (c5 (fun c=>decide (c<j)))]::H) lc (_,_) (by omega) (fun j hj=>?_) ?_
 · have ej:bg .i64 (j:Int) (Int.ofNat 1)=((j+1:Nat):Int):=gr (by omega)
   have T:=Ns (n+1) dr lc (LL lc) zc lb zb H (c5 (fun c=>decide (c<j))) (j:Int)
   rw[DN,ej,Hk] at T
   refine aK T (aJ _) (ak _ _) (al _ _) ?_
   refine Tr.af (fun h0=>?_) (fun h0=>by simp (disch:=omega) only[nV,nW] at h0;omega)
   exact Tr.ab (by rw[eL];simp (disch:=omega) only[nV,nW];omega) (Tr.ab (by simp (disch:=omega) only[nV,nW]) (Tr.ab (by rw[eL];simp (disch:=omega) only[nV,nW];omega) (Tr.ah ⟨rfl,rfl⟩)))
 · obtain ⟨x,h1,rfl⟩:=aK (Q:=fun x=>x=(.exit 0,mV 1 lc (LL lc) 5 (Int.ofNat lc)++[(18,.bool false)],eF dr lc zc lb zb [cr (LL lc) (c5 (fun c=>decide (c<lc)))]::H)) (Ns (n+1) dr lc (LL lc) zc lb zb H (c5 (fun c=>decide (c<lc))) (Int.ofNat lc)) (aJ _) (ak _ _) (al _ _) (by
    refine Tr.af (fun h0=>by simp (disch:=omega) only[nV,nW] at h0;omega) (fun h0=>Tr.ah rfl))
   exact h1
noncomputable def RG (lc:Nat):Nat→az
 | 0=>mV 1 lc (LL lc) 6 (Int.ofNat 0)
 | t+1=>mV 2 lc (LL lc) 6 ((t+1:Nat):Int)
noncomputable def Mt:Nat→aa
 | 0=>eF dr lc zc lb zb [cr (LL lc) (c5 (bD lc b 0))]::H
 | t+1=>eF dr lc zc lb zb [cr (LL lc) (c5 (bD lc b 0)),cr (LL lc) (c5 (bD lc b (t+1)))]::H
theorem Pg (hl:lc≤10) (h1:1≤lc) (hb:lb≤1000) (hB:b=fun c=>cI zb c lb) (hp:fH lc lb zb):exec (cj (n+1) 64 66) (.block 2 (.loop (part Tryd.f64 [1,1,1,1,0,1,0,0]))) (RG lc 0) (Mt dr lc zc lb zb b H 0) =
 some (.normal,mV 2 lc (LL lc) 6 (Int.ofNat lc)++[(26,.bool false)],Mt dr lc zc lb zb b H lc):=by
 have mk8:DP (Int.ofNat lc) (Int.ofNat lc) 8=true:=by simp (disch:=omega) only[nV,nW];omega
 refine kG (n:=n+1) (f:=64) (nt:=66) (c:=part Tryd.f64 [1,1,1,1,0,1,0,0]) 2 (RG lc) (Mt dr lc zc lb zb b H) lc (_,_) (by omega) (fun t ht=>?_) ?_
 · have ec:bg .i64 (t:Int) (Int.ofNat 1)=((t+1:Nat):Int):=gr (by omega)
   cases t with
   | zero =>
     have hx:=TT n dr lc zc lb zb b H 0 hl hb (((0:Nat)):Int)
     rw[IQ,Fp lc lb zb hB hp] at hx
     have T:=Nw (n+1) dr lc zc lb zb H (c5 (bD lc b 0)) (c5 (bD lc b (0+1))) (((0:Nat)):Int)
     rw[ec] at T
     refine aK T (aJ _) (a8 (ak _ _) Ix (fun x h=>by rw[← Tr.ae h];simp only[fq.st,aV];exact hx)) (al _ _) ?_
     exact Tr.af (fun h0=>Tr.ab mk8 (Tr.aj ⟨rfl,rfl⟩ (Tr.ah ⟨rfl,rfl⟩))) (fun h0=>by simp (disch:=omega) only[nV,nW] at h0;omega)
   | succ t =>
     have hx:=TU n dr lc zc lb zb b H (c5 (bD lc b 0)) (t+1) hl hb (((t+1:Nat)):Int)
     rw[IQ,Fp lc lb zb hB hp] at hx
     have T:=Nx (n+1) dr lc zc lb zb H (c5 (bD lc b 0)) (c5 (bD lc b (t+1))) (c5 (bD lc b (t+1+1))) (((t+1:Nat)):Int)
     rw[ec] at T
     refine aK T (aJ _) (a8 (ak _ _) Ix (fun x h=>by rw[← Tr.ae h];simp only[fq.st,aV];exact hx)) (al _ _) ?_
     exact Tr.af (fun h0=>Tr.ab mk8 (Tr.aj ⟨rfl,rfl⟩ (Tr.ah ⟨rfl,rfl⟩))) (fun h0=>by simp (disch:=omega) only[nV,nW] at h0;omega)
 · obtain ⟨m,rfl⟩:∃ m,lc=m+1:=⟨lc-1,by omega⟩
   obtain ⟨x,h1,rfl⟩:=aK (Q:=fun x=>x=(.exit 2,mV 2 (m+1) (LL (m+1)) 6 (Int.ofNat (m+1))++[(26,.bool false)],Mt dr (m+1) zc lb zb b H (m+1))) (Lq (n+1) dr (m+1) (LL (m+1)) zc lb zb H (c5 (bD (m+1) b 0)) (c5 (bD (m+1) b (m+1))) (Int.ofNat (m+1))) (aJ _) (dJ (ak _ _) 4) (al _ _) (by
    refine Tr.af (fun h0=>by simp (disch:=omega) only[nV,nW] at h0;omega) (fun h0=>Tr.ah rfl))
   exact h1
theorem Ph (hl:lc≤10) (g:Nat→Int) (p:Nat→Bool):exec (cj (n+1) 64 66) (.block 8 (.loop (part Tryd.f64 [1,1,1,1,1,0,1,0,0]))) (Ah lc (LL lc) (Int.ofNat 0)) (eF dr lc zc lb zb [cr (LL lc) g,cr (LL lc) (c5 p)]::H) =
 some (cond (eK p lc) (.ret,[(2,.bool true)],eF dr lc zc lb zb [cr (LL lc) g,cr (LL lc) (c5 p)]::H) (.normal,Ah lc (LL lc) (Int.ofNat lc)++[(58,.bool false)],eF dr lc zc lb zb [cr (LL lc) g,cr (LL lc) (c5 p)]::H)):=by
 have eL:=Ba lc
 refine lK (n:=n+1) (f:=64) (nt:=66) (c:=part Tryd.f64 [1,1,1,1,1,0,1,0,0]) 8 (fun j=>Ah lc (LL lc) (j:Int)) (fun _=>eF dr lc zc lb zb [cr (LL lc) g,cr (LL lc) (c5 p)]::H) lc p (fun j=>([(2,.bool true)],eF dr lc zc lb zb [cr (LL lc) g,cr (LL lc) (c5 p)]::H)) (_,_) (by omega) (fun j hj=>?_) ?_
 · have ej:bg .i64 (j:Int) (Int.ofNat 1)=((j+1:Nat):Int):=gr (by omega)
   have T:=Nv (n+1) dr lc (LL lc) zc lb zb H g (c5 p) (j:Int)
   rw[DN,ej,Az] at T
   refine aK T (aJ _) (ak _ _) (al _ _) ?_
   refine Tr.af (fun h0=>?_) (fun h0=>by simp (disch:=omega) only[nV,nW] at h0;omega)
   refine Tr.ab (by rw[eL];simp (disch:=omega) only[nV,nW];omega) (Tr.ab (by simp (disch:=omega) only[nV,nW]) (Tr.ab (by rw[eL];simp (disch:=omega) only[nV,nW];omega) (Tr.af (fun q=>Tr.ah ?_) (fun q=>Tr.ah ?_))))
   · rw[if_pos q];rfl
   · rw[if_neg (by rw[q];decide)];exact ⟨rfl,rfl⟩
 · obtain ⟨x,h1,rfl⟩:=aK (Q:=fun x=>x=(.exit 8,Ah lc (LL lc) (Int.ofNat lc)++[(58,.bool false)],eF dr lc zc lb zb [cr (LL lc) g,cr (LL lc) (c5 p)]::H)) (Nv (n+1) dr lc (LL lc) zc lb zb H g (c5 p) (Int.ofNat lc)) (aJ _) (ak _ _) (al _ _) (by
    refine Tr.af (fun h0=>by simp (disch:=omega) only[nV,nW] at h0;omega) (fun h0=>Tr.ah rfl))
   exact h1
theorem Sb (hl:lc≤10) (h1:1≤lc) (hb:lb≤1000) (hp:fH lc lb zb):cd (n+2) (.fn 64) [di dr lc zc lb zb] H=some (.bool (fB lc (fun c=>cI zb c lb)),H):=by
 have e1:=Pj n dr lc zc lb zb H hl
 rw[TZ] at e1
 have e2:=Pg n dr lc zc lb zb (fun c=>cI zb c lb) H hl h1 hb rfl hp
 have e3:=Ph n dr lc zc lb zb H hl (c5 (bD lc (fun c=>cI zb c lb) 0)) (bD lc (fun c=>cI zb c lb) lc)
 have hT:Mt dr lc zc lb zb (fun c=>cI zb c lb) H lc=eF dr lc zc lb zb [cr (LL lc) (c5 (bD lc (fun c=>cI zb c lb) 0)),cr (LL lc) (c5 (bD lc (fun c=>cI zb c lb) lc))]::H:=by
  obtain ⟨m,rfl⟩:∃ m,lc=m+1:=⟨lc-1,by omega⟩
  rfl
 rw[hT] at e2
 refine bV (n:=n+1) Tryd.func64 rfl rfl rfl (u64 (n+1) dr lc zc lb zb H (c5 (bD lc (fun c=>cI zb c lb) 0)) (c5 (bD lc (fun c=>cI zb c lb) 0)) (c5 (bD lc (fun c=>cI zb c lb) lc)) (eK (bD lc (fun c=>cI zb c lb) lc) lc)) (aJ _) (a8 (a8 (a8 (ak _ _) LQ (fun x h=>by rw[← Tr.ae h];simp only[fq.st,aV];exact e1)) LR (fun x h=>by rw[← Tr.ae h];simp only[fq.st,aV];exact e2)) LS (fun x h=>eX h e3)) (al _ _) ?_
 have mk8:DP (Int.ofNat lc) (Int.ofNat lc) 8=true:=by simp (disch:=omega) only[nV,nW];omega
 have eb:eK (bD lc (fun c=>cI zb c lb) lc) lc=fB lc (fun c=>cI zb c lb):=Ki _ _
 rw[eb]
 refine Tr.ab mk8 (Tr.aj ⟨rfl,rfl⟩ (Tr.aj ⟨rfl,rfl⟩ (Tr.aj ⟨rfl,rfl⟩ (Tr.af (fun q=>Tr.ah ⟨?_,rfl⟩) (fun q=>Tr.ah ⟨?_,rfl⟩)))))
 · rw[q]
 · rw[q]
end
end Go.Eng
end
section
namespace Go.Eng
open Go.Proofs
noncomputable def nm (s:Nat) (j:Int):az:=[(1,.ptr 0 0 0 0),(s,.int .i64 j)]
noncomputable def Ad (j k:Int):az:=[(1,.ptr 0 0 0 0),(5,.int .i64 j),(6,.ptr 0 1 0 0),(7,.int .i64 k)]
noncomputable def Dy (a b:Int):Nat×aq:=(0,.row (.I .i64 [a,b]))
theorem Nm (n:Nat) (dr:Int) (lc:Nat) (zc:Nat→Int) (lb:Nat) (zb:Nat→Int) (H:aa) (j:Int):aW (cj n 23 125) (il a6 n 0) bp br (part Tryd.f23 [1,1,1,0,1,0,0]) (hints (nm 3 j)) (ik dr lc zc lb zb::H) =
 (fun (Z0:bA)=>((fun (Z1:aI)=>Tr.ite (bO j (Int.ofNat lc)) (Tr.req (dj j lc) (Tr.req (cZ (aC 0 j 4) (ar lc 4)) (Tr.req (cZ (av (aC 0 j 4) 1) (ar lc 4)) (Tr.req (cZ (av (aC 0 j 4) 2) (ar lc 4)) (Tr.req (cZ (av (aC 0 j 4) 3) (ar lc 4)) (Tr.ite (bO (zc (aC 0 j 4)) (Int.ofNat 0)) (Tr.ok (Ex.ret,Z1,Z0::H)) (Tr.ite (bO (zc (av (aC 0 j 4) 1)) (zc (aC 0 j 4))) (Tr.ok (Ex.ret,Z1,Z0::H)) (Tr.ite (bO (Int.ofNat 1000) (zc (av (aC 0 j 4) 1))) (Tr.ok (Ex.ret,Z1,Z0::H)) (Tr.ite (bO (zc (av (aC 0 j 4) 2)) (Int.ofNat 0)) (Tr.ok (Ex.ret,Z1,Z0::H)) (Tr.ite (bO (zc (av (aC 0 j 4) 3)) (zc (av (aC 0 j 4) 2))) (Tr.ok (Ex.ret,Z1,Z0::H)) (Tr.ite (bO (Int.ofNat 1000) (zc (av (aC 0 j 4) 3))) (Tr.ok (Ex.ret,Z1,Z0::H)) (Tr.ok (Ex.normal,[(1,AV.ptr 0 0 0 0,none),(3,AV.int .i64 (bg .i64 j (Int.ofNat 1)),none)],Z0::H))))))))))))) (Tr.ok (Ex.exit 0,[(1,AV.ptr 0 0 0 0,none),(3,AV.int .i64 j,none),(36,AV.bool false,some 1)],{ lock:=false,bs:=[(0,aq.row (Row.G [AV.int .i64 dr,AV.slcT none (Row.M [an.arr .i64 zc (ar lc 4)]) 4 lc false,AV.slcT none (Row.M [an.arr .i64 zb (ar lb 2)]) 2 lb false]))] } :: H))) [(2,AV.int .i64 (Int.ofNat 3),some 1)])) { lock:=false,bs:=[(0,aq.row (Row.G [AV.int .i64 dr,AV.slcT none (Row.M [an.arr .i64 zc (ar lc 4)]) 4 lc false,AV.slcT none (Row.M [an.arr .i64 zb (ar lb 2)]) 2 lb false])),(0,aq.row (Row.I .i64 [zc (aC 0 j 4),zc (av (aC 0 j 4) 1),zc (av (aC 0 j 4) 2),zc (av (aC 0 j 4) 3)]))] }:=by kernel_rfl
theorem No (n:Nat) (dr:Int) (lc:Nat) (zc:Nat→Int) (lb:Nat) (zb:Nat→Int) (H:aa) (a b j k:Int):aW (cj n 23 125) (il a6 n 0) bp br (part Tryd.f23 [1,1,1,1,0,1,0,0,1,0,0,1,1,1,0,0]) (hints (Ad j k)) (eF dr lc zc lb zb [Dy a b]::H) =
 (fun (Z0:bA)=>Tr.ite (bO k j) (Tr.req (dj k lb) (Tr.req (cZ (aC 0 k 2) (ar lb 2)) (Tr.req (cZ (av (aC 0 k 2) 1) (ar lb 2)) (Tr.ite (b7 (cJ (zb (aC 0 k 2)) a) (cJ (zb (av (aC 0 k 2) 1)) b)) (Tr.ok (Ex.ret,[(2,AV.int .i64 (Int.ofNat 2),some 1)],Z0::H)) (Tr.ok (Ex.normal,[(1,AV.ptr 0 0 0 0,none),(5,AV.int .i64 j,none),(6,AV.ptr 0 1 0 0,none),(7,AV.int .i64 (bg .i64 k (Int.ofNat 1)),none)],Z0::H)))))) (Tr.ok (Ex.exit 4,[(1,AV.ptr 0 0 0 0,none),(5,AV.int .i64 j,none),(6,AV.ptr 0 1 0 0,none),(7,AV.int .i64 k,none),(113,AV.bool false,some 1)],Z0::H))) { lock:=false,bs:=[(0,aq.row (Row.G [AV.int .i64 dr,AV.slcT none (Row.M [an.arr .i64 zc (ar lc 4)]) 4 lc false,AV.slcT none (Row.M [an.arr .i64 zb (ar lb 2)]) 2 lb false])),(0,aq.row (Row.I .i64 [a,b]))] }:=by kernel_rfl
theorem Qr (n:Nat) (dr:Int) (lc:Nat) (zc:Nat→Int) (lb:Nat) (zb:Nat→Int) (H:aa) (j:Int) (e:Bool):aW (cj (n+1) 23 125) (il a6 n 1) (dc bp 4 (Ad j (Int.ofNat 0)) (eF dr lc zc lb zb [Dy (zb (aC 0 j 2)) (zb (av (aC 0 j 2) 1))]::H) (.ite e (.ok (.ret,[(2,.int .i64 2,none)],eF dr lc zc lb zb [Dy (zb (aC 0 j 2)) (zb (av (aC 0 j 2) 1))]::H)) (.ok (.normal,hints (Ad j j++[(113,.bool false)]),eF dr lc zc lb zb [Dy (zb (aC 0 j 2)) (zb (av (aC 0 j 2) 1))]::H)))) br (part Tryd.f23 [1,1,1,1,0,1,0,0]) (hints (nm 5 j)) (ik dr lc zc lb zb::H) =
 (fun (Z0:bA)=>((fun (Z1:aI)=>((fun (Z2:az)=>Tr.ite (bO j (Int.ofNat lb)) (Tr.req (dj j lb) (Tr.req (cZ (aC 0 j 2) (ar lb 2)) (Tr.req (cZ (av (aC 0 j 2) 1) (ar lb 2)) (Tr.req (dj (Int.ofNat 0) 2) (Tr.ite (dN (Int.ofNat 0) (zb (aC 0 j 2))) (Tr.ite (bL (bO (zb (aC 0 j 2)) (Int.ofNat lc))) (Tr.ok (Ex.ret,Z1,Z0::H)) (Tr.req (dj (Int.ofNat 1) 2) (Tr.ite (dN (Int.ofNat 0) (zb (av (aC 0 j 2) 1))) (Tr.ite (bL (bO (zb (av (aC 0 j 2) 1)) (Int.ofNat lc))) (Tr.ok (Ex.ret,Z1,Z0::H)) (Tr.req (dj (Int.ofNat 0) 2) (Tr.req (dj (Int.ofNat 1) 2) (Tr.ite (cJ (zb (aC 0 j 2)) (zb (av (aC 0 j 2) 1))) (Tr.ok (Ex.ret,Z1,Z0::H)) (Tr.reqP (Z2=Z2∧Z0::H=Z0::H) (Tr.ite e (Tr.ok (Ex.ret,[(2,AV.int .i64 (Int.ofNat 2),none)],Z0::H)) (Tr.ok (Ex.normal,[(1,AV.ptr 0 0 0 0,none),(5,AV.int .i64 (bg .i64 j (Int.ofNat 1)),none)],Z0::H)))))))) (Tr.ok (Ex.ret,Z1,Z0::H))))) (Tr.ok (Ex.ret,Z1,Z0::H))))))) (Tr.ok (Ex.exit 2,[(1,AV.ptr 0 0 0 0,none),(5,AV.int .i64 j,none),(84,AV.bool false,some 1)],{ lock:=false,bs:=[(0,aq.row (Row.G [AV.int .i64 dr,AV.slcT none (Row.M [an.arr .i64 zc (ar lc 4)]) 4 lc false,AV.slcT none (Row.M [an.arr .i64 zb (ar lb 2)]) 2 lb false]))] } :: H))) [(1,AV.ptr 0 0 0 0),(5,AV.int .i64 j),(6,AV.ptr 0 1 0 0),(7,AV.int .i64 (Int.ofNat 0))])) [(2,AV.int .i64 (Int.ofNat 2),some 1)])) { lock:=false,bs:=[(0,aq.row (Row.G [AV.int .i64 dr,AV.slcT none (Row.M [an.arr .i64 zc (ar lc 4)]) 4 lc false,AV.slcT none (Row.M [an.arr .i64 zb (ar lb 2)]) 2 lb false])),(0,aq.row (Row.I .i64 [zb (aC 0 j 2),zb (av (aC 0 j 2) 1)]))] }:=by kernel_rfl
theorem Nn (n:Nat) (dr:Int) (lc:Nat) (zc:Nat→Int) (lb:Nat) (zb:Nat→Int) (H:aa) (j:Int):aW (cj (n+1) 23 125) (il a6 n 1) (jB bp 4) br (part Tryd.f23 [1,1,1,1,0,1,0,0]) (hints (nm 5 j)) (ik dr lc zc lb zb::H) =
 (fun (Z0:bA)=>((fun (Z1:aI)=>Tr.ite (bO j (Int.ofNat lb)) (Tr.req (dj j lb) (Tr.req (cZ (aC 0 j 2) (ar lb 2)) (Tr.req (cZ (av (aC 0 j 2) 1) (ar lb 2)) (Tr.req (dj (Int.ofNat 0) 2) (Tr.ite (dN (Int.ofNat 0) (zb (aC 0 j 2))) (Tr.ite (bL (bO (zb (aC 0 j 2)) (Int.ofNat lc))) (Tr.ok (Ex.ret,Z1,Z0::H)) (Tr.req (dj (Int.ofNat 1) 2) (Tr.ite (dN (Int.ofNat 0) (zb (av (aC 0 j 2) 1))) (Tr.ite (bL (bO (zb (av (aC 0 j 2) 1)) (Int.ofNat lc))) (Tr.ok (Ex.ret,Z1,Z0::H)) (Tr.req (dj (Int.ofNat 0) 2) (Tr.req (dj (Int.ofNat 1) 2) (Tr.ite (cJ (zb (aC 0 j 2)) (zb (av (aC 0 j 2) 1))) (Tr.ok (Ex.ret,Z1,Z0::H)) Tr.bad)))) (Tr.ok (Ex.ret,Z1,Z0::H))))) (Tr.ok (Ex.ret,Z1,Z0::H))))))) (Tr.ok (Ex.exit 2,[(1,AV.ptr 0 0 0 0,none),(5,AV.int .i64 j,none),(84,AV.bool false,some 1)],{ lock:=false,bs:=[(0,aq.row (Row.G [AV.int .i64 dr,AV.slcT none (Row.M [an.arr .i64 zc (ar lc 4)]) 4 lc false,AV.slcT none (Row.M [an.arr .i64 zb (ar lb 2)]) 2 lb false]))] } :: H))) [(2,AV.int .i64 (Int.ofNat 2),some 1)])) { lock:=false,bs:=[(0,aq.row (Row.G [AV.int .i64 dr,AV.slcT none (Row.M [an.arr .i64 zc (ar lc 4)]) 4 lc false,AV.slcT none (Row.M [an.arr .i64 zb (ar lb 2)]) 2 lb false])),(0,aq.row (Row.I .i64 [zb (aC 0 j 2),zb (av (aC 0 j 2) 1)]))] }:=by kernel_rfl
theorem Up (n:Nat) (dr:Int) (lc:Nat) (zc:Nat→Int) (lb:Nat) (zb:Nat→Int) (H:aa) (e1 e2 e3:Bool) (l1 l2:bA) (C:List AV→Prop):bE Tryd.prog (cd n) 100000 23 Tryd.f23 (KtG.kt 23) (il (oa a6 64 (gB e3 C)) n 0) (dc (dc bp 0 (nm 3 (Int.ofNat 0)) (ik dr lc zc lb zb::H) (.ite e1 (.ok (.ret,[(2,.int .i64 3,none)],l1::H)) (.ok (.normal,hints (nm 3 (Int.ofNat lc)++[(36,.bool false)]),ik dr lc zc lb zb::H)))) 2 (nm 5 (Int.ofNat 0)) (ik dr lc zc lb zb::H) (.ite e2 (.ok (.ret,[(2,.int .i64 2,none)],l2::H)) (.ok (.normal,hints (nm 5 (Int.ofNat lb)++[(84,.bool false)]),ik dr lc zc lb zb::H)))) br [(di dr lc zc lb zb,none)] H =
 (fun (Z0:Row)=>((fun (Z1:bA)=>Tr.ite (bO (Int.ofNat lc) (Int.ofNat 1)) (Tr.ok ((AV.int .i64 (Int.ofNat 6),some 1),H)) (Tr.ite (bO (Int.ofNat 10) (Int.ofNat lc)) (Tr.ok ((AV.int .i64 (Int.ofNat 6),some 1),H)) (Tr.ite (bO (Int.ofNat 40) (Int.ofNat lb)) (Tr.ok ((AV.int .i64 (Int.ofNat 6),some 1),H)) (Tr.ite (bO dr (Int.ofNat 1)) (Tr.ok ((AV.int .i64 (Int.ofNat 3),some 1),H)) (Tr.ite (bO (Int.ofNat 100) dr) (Tr.ok ((AV.int .i64 (Int.ofNat 3),some 1),H)) (Tr.reqP ([(1,AV.ptr 0 0 0 0),(3,AV.int .i64 (Int.ofNat 0))]=[(1,AV.ptr 0 0 0 0),(3,AV.int .i64 (Int.ofNat 0))]∧Z1::H=Z1::H) (Tr.ite e1 (Tr.ok ((AV.int .i64 (Int.ofNat 3),none),H)) (Tr.reqP ([(1,AV.ptr 0 0 0 0),(5,AV.int .i64 (Int.ofNat 0))]=[(1,AV.ptr 0 0 0 0),(5,AV.int .i64 (Int.ofNat 0))]∧Z1::H=Z1::H) (Tr.ite e2 (Tr.ok ((AV.int .i64 (Int.ofNat 2),none),H)) (Tr.reqP (C [AV.agg Z0]) (Tr.ite e3 (Tr.ok ((AV.int .i64 (Int.ofNat 16),some 1),H)) (Tr.ok ((AV.int .i64 (Int.ofNat 0),some 1),H))))))))))))) { lock:=false,bs:=[(0,aq.row Z0)] })) (Row.G [AV.int .i64 dr,AV.slcT none (Row.M [an.arr .i64 zc (ar lc 4)]) 4 lc false,AV.slcT none (Row.M [an.arr .i64 zb (ar lb 2)]) 2 lb false]):=by kernel_rfl
theorem Qx (n:Nat) (dr:Int) (lc:Nat) (zc:Nat→Int) (lb:Nat) (zb:Nat→Int) (H:aa):bE Tryd.prog (cd n) 100000 23 Tryd.f23 (KtG.kt 23) (il a6 n 0) (jB bp 0) br [(di dr lc zc lb zb,none)] H =
 Tr.ite (bO (Int.ofNat lc) (Int.ofNat 1)) (Tr.ok ((AV.int .i64 (Int.ofNat 6),some 1),H)) (Tr.ite (bO (Int.ofNat 10) (Int.ofNat lc)) (Tr.ok ((AV.int .i64 (Int.ofNat 6),some 1),H)) (Tr.ite (bO (Int.ofNat 40) (Int.ofNat lb)) (Tr.ok ((AV.int .i64 (Int.ofNat 6),some 1),H)) (Tr.ite (bO dr (Int.ofNat 1)) (Tr.ok ((AV.int .i64 (Int.ofNat 3),some 1),H)) (Tr.ite (bO (Int.ofNat 100) dr) (Tr.ok ((AV.int .i64 (Int.ofNat 3),some 1),H)) Tr.bad)))):=by kernel_rfl
end Go.Eng
end
section
namespace Go.Eng
open Go.Proofs Go.Eng.Gall
theorem LK:∀ b,(0,b) ∈ aO (bz Tryd.f23)→b=.loop (part Tryd.f23 [1,1,1,0,1,0,0]):=gk (by kernel_rfl)
theorem LM:∀ b,(2,b) ∈ aO (bz Tryd.f23)→b=.loop (part Tryd.f23 [1,1,1,1,0,1,0,0]):=gk (by kernel_rfl)
theorem LN:∀ b,(4,b) ∈ aO (part Tryd.f23 [1,1,1,1,0,1,0,0])→b=.loop (part Tryd.f23 [1,1,1,1,0,1,0,0,1,0,0,1,1,1,0,0]):=gk (by kernel_rfl)
section
variable (n:Nat) (dr:Int) (lc:Nat) (zc:Nat→Int) (lb:Nat) (zb:Nat→Int) (H:aa)
noncomputable def KM (j:Nat):bA:=eF dr lc zc lb zb [(0,.row (.I .i64 [zc (j*4),zc (j*4+1),zc (j*4+2),zc (j*4+3)]))]
theorem Pk (hl:lc≤1000):exec (cj n 23 125) (.block 0 (.loop (part Tryd.f23 [1,1,1,0,1,0,0]))) (nm 3 (Int.ofNat 0)) (ik dr lc zc lb zb::H) =
 some (cond (eK (jo zc) lc) (.ret,[(2,.int .i64 3)],KM dr lc zc lb zb (fN (jo zc) lc 0)::H) (.normal,nm 3 (Int.ofNat lc)++[(36,.bool false)],ik dr lc zc lb zb::H)):=by
 refine lK (n:=n) (f:=23) (nt:=125) (c:=part Tryd.f23 [1,1,1,0,1,0,0]) 0 (fun j=>nm 3 (j:Int)) (fun _=>ik dr lc zc lb zb::H) lc (jo zc) (fun j=>([(2,.int .i64 3)],KM dr lc zc lb zb j::H)) (_,_) (by omega) (fun j hj=>?_) ?_
 · have ej:bg .i64 (j:Int) (Int.ofNat 1)=((j+1:Nat):Int):=gr (by omega)
   have ei:aC 0 (j:Int) 4=j*4:=by rw[bY];omega
   have hs:jo zc j=!(decide (0≤zc (j*4)) && (decide (zc (j*4)≤zc (j*4+1)) && (decide (zc (j*4+1)≤1000) && (decide (0≤zc (j*4+2)) && (decide (zc (j*4+2)≤zc (j*4+3)) && decide (zc (j*4+3)≤1000)))))):=rfl
   have T:=Nm n dr lc zc lb zb H (j:Int)
   rw[ei,aH,aH,aH,ej] at T
   refine aK T (aJ _) (ak _ _) (al _ _) ?_
   refine Tr.af (fun h0=>?_) (fun h0=>by simp (disch:=omega) only[nV,nW] at h0;omega)
   refine Tr.ab (by simp (disch:=omega) only[nV,nW];omega) (Tr.ab (by simp (disch:=omega) only[nV,nW];omega) (Tr.ab (by simp (disch:=omega) only[nV,nW];omega) (Tr.ab (by simp (disch:=omega) only[nV,nW];omega) (Tr.ab (by simp (disch:=omega) only[nV,nW];omega) ?_))))
   have yes:(¬ (0≤zc (j*4)∧zc (j*4)≤zc (j*4+1)∧zc (j*4+1)≤1000∧0≤zc (j*4+2)∧zc (j*4+2)≤zc (j*4+3)∧zc (j*4+3)≤1000))→jo zc j=true:=fun h=>by rw[hs];simp;omega
   refine Tr.af (fun q1=>Tr.ah ?_) (fun q1=>Tr.af (fun q2=>Tr.ah ?_) (fun q2=>Tr.af (fun q3=>Tr.ah ?_) (fun q3=>Tr.af (fun q4=>Tr.ah ?_) (fun q4=>Tr.af (fun q5=>Tr.ah ?_) (fun q5=>Tr.af (fun q6=>Tr.ah ?_) (fun q6=>Tr.ah ?_))))))
   · rw[bF,decide_eq_true_iff] at q1
     rw[if_pos (yes (by have:zc (j*4)<0:=q1;omega))];rfl
   · rw[bF,decide_eq_true_iff] at q2
     rw[if_pos (yes (by omega))];rfl
   · rw[bF,decide_eq_true_iff] at q3
     rw[if_pos (yes (by have:1000<zc (j*4+1):=q3;omega))];rfl
   · rw[bF,decide_eq_true_iff] at q4
     rw[if_pos (yes (by have:zc (j*4+2)<0:=q4;omega))];rfl
   · rw[bF,decide_eq_true_iff] at q5
     rw[if_pos (yes (by omega))];rfl
   · rw[bF,decide_eq_true_iff] at q6
     rw[if_pos (yes (by have:1000<zc (j*4+3):=q6;omega))];rfl
   · rw[bF,decide_eq_false_iff_not] at q1 q2 q3 q4 q5 q6
     have q1:¬ zc (j*4)<0:=q1
     have q3:¬ 1000<zc (j*4+1):=q3
     have q4:¬ zc (j*4+2)<0:=q4
     have q6:¬ 1000<zc (j*4+3):=q6
     rw[if_neg (by rw[hs];simp;omega)]
     exact ⟨rfl,rfl⟩
 · obtain ⟨x,h1,rfl⟩:=aK (Q:=fun x=>x=(.exit 0,nm 3 (Int.ofNat lc)++[(36,.bool false)],ik dr lc zc lb zb::H)) (Nm n dr lc zc lb zb H (Int.ofNat lc)) (aJ _) (ak _ _) (al _ _) (by
    refine Tr.af (fun h0=>by simp (disch:=omega) only[nV,nW] at h0;omega) (fun h0=>Tr.ah rfl))
   exact h1
theorem Pn (a b:Int) (j:Nat) (hj:j≤lb) (hb:lb≤1000):exec (cj n 23 125) (.block 4 (.loop (part Tryd.f23 [1,1,1,1,0,1,0,0,1,0,0,1,1,1,0,0]))) (Ad (j:Int) (Int.ofNat 0)) (eF dr lc zc lb zb [Dy a b]::H) =
 some (cond (eK (eB zb a b) j) (.ret,[(2,.int .i64 2)],eF dr lc zc lb zb [Dy a b]::H) (.normal,Ad (j:Int) (j:Int)++[(113,.bool false)],eF dr lc zc lb zb [Dy a b]::H)):=by
 refine lK (n:=n) (f:=23) (nt:=125) (c:=part Tryd.f23 [1,1,1,1,0,1,0,0,1,0,0,1,1,1,0,0]) 4 (fun k=>Ad (j:Int) (k:Int)) (fun _=>eF dr lc zc lb zb [Dy a b]::H) j (eB zb a b) (fun k=>([(2,.int .i64 2)],eF dr lc zc lb zb [Dy a b]::H)) (_,_) (by omega) (fun k hk=>?_) ?_
 · have ek:bg .i64 (k:Int) (Int.ofNat 1)=((k+1:Nat):Int):=gr (by omega)
   have ei:aC 0 (k:Int) 2=k*2:=by rw[bY];omega
   have hp:b7 (cJ (zb (k*2)) a) (cJ (zb (k*2+1)) b)=eB zb a b k:=by
    rw[bS,aT,aT];unfold eB
    rw[Bool.eq_iff_iff];simp
    constructor<;>(rintro ⟨h1,h2⟩;exact ⟨h1.symm,h2.symm⟩)
   have T:=No n dr lc zc lb zb H a b (j:Int) (k:Int)
   rw[ei,aH,ek,hp] at T
   refine aK T (aJ _) (ak _ _) (al _ _) ?_
   refine Tr.af (fun h0=>?_) (fun h0=>by simp (disch:=omega) only[nV,nW] at h0;omega)
   refine Tr.ab (by simp (disch:=omega) only[nV,nW];omega) (Tr.ab (by simp (disch:=omega) only[nV,nW];omega) (Tr.ab (by simp (disch:=omega) only[nV,nW];omega) (Tr.af (fun q=>Tr.ah ?_) (fun q=>Tr.ah ?_))))
   · rw[if_pos q];rfl
   · rw[if_neg (by rw[q];decide)];exact ⟨rfl,rfl⟩
 · obtain ⟨x,h1,rfl⟩:=aK (Q:=fun x=>x=(.exit 4,Ad (j:Int) (j:Int)++[(113,.bool false)],eF dr lc zc lb zb [Dy a b]::H)) (No n dr lc zc lb zb H a b (j:Int) (j:Int)) (aJ _) (ak _ _) (al _ _) (by
    refine Tr.af (fun h0=>by simp (disch:=omega) only[nV,nW] at h0;omega) (fun h0=>Tr.ah rfl))
   exact h1
theorem Pl   (hl:lc≤1000) (hb:lb≤1000):exec (cj (n+1) 23 125) (.block 2 (.loop (part Tryd.f23 [1,1,1,1,0,1,0,0]))) (nm 5 (Int.ofNat 0)) (ik dr lc zc lb zb::H) =
 some (cond (eK (fZ lc zb) lb) (.ret,[(2,.int .i64 2)],eF dr lc zc lb zb [Dy (zb (fN (fZ lc zb) lb 0*2)) (zb (fN (fZ lc zb) lb 0*2+1))]::H) (.normal,nm 5 (Int.ofNat lb)++[(84,.bool false)],ik dr lc zc lb zb::H)):=by
 refine lK (n:=n+1) (f:=23) (nt:=125) (c:=part Tryd.f23 [1,1,1,1,0,1,0,0]) 2 (fun j=>nm 5 (j:Int)) (fun _=>ik dr lc zc lb zb::H) lb (fZ lc zb) (fun j=>([(2,.int .i64 2)],eF dr lc zc lb zb [Dy (zb (j*2)) (zb (j*2+1))]::H)) (_,_) (by omega) (fun j hj=>?_) ?_
 · have ej : bg .i64 (j:Int) (Int.ofNat 1)=((j+1:Nat):Int):=gr (by omega)
   have ei:aC 0 (j:Int) 2=j*2:=by rw[bY];omega
   have T:=Qr n dr lc zc lb zb H (j:Int) (eK (eB zb (zb (j*2)) (zb (j*2+1))) j)
   rw[ei,aH,ej] at T
   refine aK T (iv n 1) (a8 (ak _ _) LN (fun x h=>eX h (Pn (n+1) dr lc zc lb zb H _ _ j (by omega) hb))) (al _ _) ?_
   refine Tr.af (fun h0=>?_) (fun h0=>by simp (disch:=omega) only[nV,nW] at h0;omega)
   refine Tr.ab (by simp (disch:=omega) only[nV,nW];omega) (Tr.ab (by simp (disch:=omega) only[nV,nW];omega) (Tr.ab (by simp (disch:=omega) only[nV,nW];omega) (Tr.ab (by simp (disch:=omega) only[nV,nW];omega) ?_)))
   have yes:(zb (j*2)=zb (j*2+1)∨¬ (0≤zb (j*2)∧zb (j*2)<lc)∨¬ (0≤zb (j*2+1)∧zb (j*2+1)<lc))→fZ lc zb j=true:=fun h=>by
    unfold fZ
    rcases h with h | h | h
    · rw[decide_eq_true h];rfl
    · rw[decide_eq_false h];simp
    · rw[decide_eq_false h];simp
   refine Tr.af (fun q1=>?_) (fun q1=>Tr.ah ?_)
   · rw[bt,decide_eq_true_iff] at q1
     have q1:0≤zb (j*2):=q1
     refine Tr.af (fun q2=>Tr.ah ?_) (fun q2=>?_)
     · rw[aY,bF] at q2
       have q2:¬ zb (j*2)<(lc:Int):=by simpa using q2
       rw[if_pos (yes (.inr (.inl (by omega))))];rfl
     · rw[aY,bF] at q2
       have q2:zb (j*2)<(lc:Int):=by simpa using q2
       refine Tr.ab (by simp (disch:=omega) only[nV,nW];omega) (Tr.af (fun q3=>?_) (fun q3=>Tr.ah ?_))
       · rw[bt,decide_eq_true_iff] at q3
         have q3:0≤zb (j*2+1):=q3
         refine Tr.af (fun q4=>Tr.ah ?_) (fun q4=>?_)
         · rw[aY,bF] at q4
           have q4:¬ zb (j*2+1)<(lc:Int):=by simpa using q4
           rw[if_pos (yes (.inr (.inr (by omega))))];rfl
         · rw[aY,bF] at q4
           have q4:zb (j*2+1)<(lc:Int):=by simpa using q4
           refine Tr.ab (by simp (disch:=omega) only[nV,nW];omega) (Tr.ab (by simp (disch:=omega) only[nV,nW];omega) (Tr.af (fun q5=>Tr.ah ?_) (fun q5=>?_)))
           · rw[aT,beq_iff_eq] at q5
             rw[if_pos (yes (.inl q5))];rfl
           · rw[aT,beq_eq_false_iff_ne] at q5
             refine Tr.aj ⟨rfl,rfl⟩ (Tr.af (fun q6=>Tr.ah ?_) (fun q6=>Tr.ah ?_))
             · rw[if_pos (by unfold fZ;rw[q6];simp)];rfl
             · rw[if_neg (by unfold fZ;rw[q6,decide_eq_false q5,decide_eq_true ⟨q1,q2⟩,decide_eq_true ⟨q3,q4⟩];decide)]
               exact ⟨rfl,rfl⟩
       · rw[bt,decide_eq_false_iff_not] at q3
         have q3:¬ 0≤zb (j*2+1):=q3
         rw[if_pos (yes (.inr (.inr (by omega))))];rfl
   · rw[bt,decide_eq_false_iff_not] at q1
     have q1:¬ 0≤zb (j*2):=q1
     rw[if_pos (yes (.inr (.inl (by omega))))];rfl
 · obtain ⟨x,h1,rfl⟩:=aK (Q:=fun x=>x=(.exit 2,nm 5 (Int.ofNat lb)++[(84,.bool false)],ik dr lc zc lb zb::H)) (Nn n dr lc zc lb zb H (Int.ofNat lb)) (iv n 1) (dJ (ak _ _) 4) (al _ _) (by
    refine Tr.af (fun h0=>by simp (disch:=omega) only[nV,nW] at h0;omega) (fun h0=>Tr.ah rfl))
   exact h1
theorem Oc (hl:lc≤1000) (hb:lb≤1000):cd (n+3) (.fn 23) [di dr lc zc lb zb] H=some (.int .i64 (dX dr lc zc lb zb),H):=by
 by_cases k0:1≤lc∧lc≤10∧lb≤40
 · obtain ⟨k1,k2,k3⟩:=k0
   have ht:(oa a6 64 (gB (fB lc (fun c=>cI zb c lb)) (fun A=>A=[di dr lc zc lb zb]∧fH lc lb zb))).Ok (cd (n+2)):=xA (bx _) (fun A H hA=>by
    obtain ⟨rfl,hp⟩:=hA
    exact Sb n dr lc zc lb zb H k2 k1 hb hp)
   refine bV (n:=n+2) Tryd.func23 rfl rfl rfl (Up (n+2) dr lc zc lb zb H (eK (jo zc) lc) (eK (fZ lc zb) lb) (fB lc (fun c=>cI zb c lb)) (KM dr lc zc lb zb (fN (jo zc) lc 0)) (eF dr lc zc lb zb [Dy (zb (fN (fZ lc zb) lb 0*2)) (zb (fN (fZ lc zb) lb 0*2+1))]) (fun A=>A=[di dr lc zc lb zb]∧fH lc lb zb)) (bZ _ _ ht) (a8 (a8 (ak _ _) LK (fun y h=>eX h (Pk (n+2) dr lc zc lb zb H hl))) LM (fun y h=>eX h (Pl (n+1) dr lc zc lb zb H hl hb))) (al _ _) ?_
   have hG:dX dr lc zc lb zb=if dr<1∨100<dr∨eK (jo zc) lc=true then 3 else if eK (fZ lc zb) lb=true then 2 else if fB lc (fun c=>cI zb c lb)=true then 16 else 0:=by unfold dX;rw[if_neg (by omega)]
   rw[hG]
   refine Tr.af (fun q=>by exfalso;simp (disch:=omega) only[nV,nW] at q;omega) (fun _=>Tr.af (fun q=>by exfalso;simp (disch:=omega) only[nV,nW] at q;omega) (fun _=>Tr.af (fun q=>by exfalso;simp (disch:=omega) only[nV,nW] at q;omega) (fun _=>?_)))
   refine Tr.af (fun q=>?_) (fun q=>Tr.af (fun q'=>?_) (fun q'=>?_))
   · rw[bF,decide_eq_true_iff] at q
     rw[if_pos (.inl q)];exact Tr.ah ⟨rfl,rfl⟩
   · rw[bF,decide_eq_true_iff] at q'
     rw[if_pos (.inr (.inl q'))];exact Tr.ah ⟨rfl,rfl⟩
   · rw[bF,decide_eq_false_iff_not] at q q'
     have q:¬ dr<1:=q
     have q':¬ 100<dr:=q'
     refine Tr.aj ⟨rfl,rfl⟩ (Tr.af (fun r=>?_) (fun r=>?_))
     · rw[if_pos (.inr (.inr r))];exact Tr.ah ⟨rfl,rfl⟩
     · rw[if_neg (by rintro (h | h | h);omega;omega;rw[r] at h;cases h)]
       refine Tr.aj ⟨rfl,rfl⟩ (Tr.af (fun u=>?_) (fun u=>?_))
       · rw[if_pos u];exact Tr.ah ⟨rfl,rfl⟩
       · rw[if_neg (by rw[u];decide)]
         refine Tr.aj ⟨rfl,pc u⟩ (Tr.af (fun w=>?_) (fun w=>?_))
         · rw[if_pos w];exact Tr.ah ⟨rfl,rfl⟩
         · rw[if_neg (by rw[w];decide)];exact Tr.ah ⟨rfl,rfl⟩
 · refine bV (n:=n+2) Tryd.func23 rfl rfl rfl (Qx (n+2) dr lc zc lb zb H) (aJ _) (dJ (ak _ _) 0) (al _ _) ?_
   have hG:dX dr lc zc lb zb=6:=by unfold dX;rw[if_pos (by omega)]
   rw[hG]
   refine Tr.af (fun q=>Tr.ah ⟨rfl,rfl⟩) (fun q=>Tr.af (fun q2=>Tr.ah ⟨rfl,rfl⟩) (fun q2=>Tr.af (fun q3=>Tr.ah ⟨rfl,rfl⟩) (fun q3=>?_)))
   exfalso
   simp (disch:=omega) only[nV,nW] at q
   simp (disch:=omega) only[nV,nW] at q2
   simp (disch:=omega) only[nV,nW] at q3
   omega
end
end Go.Eng
end
