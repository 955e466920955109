/- Gall: back, by the reference: its loops. Printed by mkGab.py. -/
import Derived.Test.YtgphpjdchnfjlaaDoorV4Ga8x3
import Derived.Test.YtgphpjdchnfjlaaDoorV4EngRoSx4
set_option linter.unusedVariables false
set_option linter.unusedSimpArgs false
set_option maxRecDepth 100000
section
namespace Go.Eng
open Go.Proofs Go.Eng.Gall
noncomputable def LL (lc:Nat):Nat:=b8 (Int.ofNat lc)
theorem Af (lc:Nat):LL lc=lc:=by unfold LL;rw[lW];rfl
theorem J1 (n:Nat) (dr:Int) (lc L:Nat) (zc:Nat→Int) (lb:Nat) (zb:Nat→Int) (H:aa) (y x:Nat→Int) (t a:Int):aT (b5 n 64 66) (il aV n 0) (gH bc 6) ba (part Tryd.f64 [1,1,1,1,0,1,0,0,1,0,0,1,0,1,0,0]) (hints (ll 1 lc L t a)) (eB dr lc zc lb zb [b7 L y,b7 L x]::H) =
 Tr.ite (cY a (Int.ofNat lc)) Tr.bad (Tr.ok (Ex.exit 4,[(1,AV.ptr 0 0 0 0,none),(3,AV.int .i64 (Int.ofNat lc),none),(4,AV.slc 0 1 0 0 1 L (some L),none),(6,AV.int .i64 t,none),(7,AV.slc 0 2 0 0 1 L (some L),none),(8,AV.int .i64 a,none),(33,AV.bool false,some 1)],{ lock:=false,bs:=[(0,az.row (Row.G [AV.int .i64 dr,AV.slcT none (Row.M [aq.arr .i64 zc (aw lc 4)]) 4 lc false,AV.slcT none (Row.M [aq.arr .i64 zb (aw lb 2)]) 2 lb false])),(0,az.row (Row.M [aq.arr .i64 y L])),(0,az.row (Row.M [aq.arr .i64 x L]))] } :: H)):=by kernel_rfl
theorem J2 (n:Nat) (dr:Int) (lc L:Nat) (zc:Nat→Int) (lb:Nat) (zb:Nat→Int) (H:aa) (g:Nat→Int) (y x:Nat→Int) (t a:Int):aT (b5 n 64 66) (il aV n 0) (gH bc 6) ba (part Tryd.f64 [1,1,1,1,0,1,0,0,1,0,0,1,0,1,0,0]) (hints (ll 2 lc L t a)) (eB dr lc zc lb zb [b7 L g,b7 L y,b7 L x]::H) =
 Tr.ite (cY a (Int.ofNat lc)) Tr.bad (Tr.ok (Ex.exit 4,[(1,AV.ptr 0 0 0 0,none),(3,AV.int .i64 (Int.ofNat lc),none),(4,AV.slc 0 2 0 0 1 L (some L),none),(6,AV.int .i64 t,none),(7,AV.slc 0 3 0 0 1 L (some L),none),(8,AV.int .i64 a,none),(33,AV.bool false,some 1)],{ lock:=false,bs:=[(0,az.row (Row.G [AV.int .i64 dr,AV.slcT none (Row.M [aq.arr .i64 zc (aw lc 4)]) 4 lc false,AV.slcT none (Row.M [aq.arr .i64 zb (aw lb 2)]) 2 lb false])),(0,az.row (Row.M [aq.arr .i64 g L])),(0,az.row (Row.M [aq.arr .i64 y L])),(0,az.row (Row.M [aq.arr .i64 x L]))] } :: H)):=by kernel_rfl
theorem J3 (n:Nat) (dr:Int) (lc L:Nat) (zc:Nat→Int) (lb:Nat) (zb:Nat→Int) (H:aa) (g:Nat→Int) (y:Nat→Int) (t:Int):aT (b5 n 64 66) (il aV n 0) (gH bc 4) ba (part Tryd.f64 [1,1,1,1,0,1,0,0]) (hints (mr 2 lc L 6 t)) (eB dr lc zc lb zb [b7 L g,b7 L y]::H) =
 Tr.ite (cY t (Int.ofNat lc)) (Tr.req (CN (Int.ofNat lc) (Int.ofNat lc) 8) Tr.bad) (Tr.ok (Ex.exit 2,[(1,AV.ptr 0 0 0 0,none),(3,AV.int .i64 (Int.ofNat lc),none),(4,AV.slc 0 2 0 0 1 L (some L),none),(6,AV.int .i64 t,none),(26,AV.bool false,some 1)],{ lock:=false,bs:=[(0,az.row (Row.G [AV.int .i64 dr,AV.slcT none (Row.M [aq.arr .i64 zc (aw lc 4)]) 4 lc false,AV.slcT none (Row.M [aq.arr .i64 zb (aw lb 2)]) 2 lb false])),(0,az.row (Row.M [aq.arr .i64 g L])),(0,az.row (Row.M [aq.arr .i64 y L]))] } :: H)):=by kernel_rfl
section
variable (n:Nat) (dr:Int) (lc:Nat) (zc:Nat→Int) (lb:Nat) (zb:Nat→Int) (b:Nat→Nat) (H:aa)
theorem SX (t a:Nat) (hl:lc≤10) (hb:lb≤1000) (ha:a<lc) (ti:Int):exec (b5 (n+1) 64 66) (.block 6 (.loop (part Tryd.f64 [1,1,1,1,0,1,0,0,1,0,0,1,0,1,0,0,1,0,0,1,0,0]))) (nU 1 lc (LL lc) ti (a:Int) (Int.ofNat 0)) (eB dr lc zc lb zb [b7 (LL lc) (cZ (bG lc b t)),b7 (LL lc) (cZ (sP lc lb zb b t a 0))]::H) =
 some (.normal,nU 1 lc (LL lc) ti (a:Int) (Int.ofNat lc)++[(38,.bool false)],eB dr lc zc lb zb [b7 (LL lc) (cZ (bG lc b t)),b7 (LL lc) (cZ (sP lc lb zb b t a lc))]::H):=by
 have eL:=Af lc
 refine qj (n:=n+1) (f:=64) (nt:=66) (c:=part Tryd.f64 [1,1,1,1,0,1,0,0,1,0,0,1,0,1,0,0,1,0,0,1,0,0]) 6 (fun c=>nU 1 lc (LL lc) ti (a:Int) (c:Int)) (fun c=>eB dr lc zc lb zb [b7 (LL lc) (cZ (bG lc b t)),b7 (LL lc) (cZ (sP lc lb zb b t a c))]::H) lc (_,_) (by omega) (fun c hc=>?_) ?_
 · have ec:bf .i64 (c:Int) (Int.ofNat 1)=((c+1:Nat):Int):=ft (by omega)
   have T:=HD (n+1) dr lc (LL lc) zc lb zb H (cZ (bG lc b t)) (cZ (sP lc lb zb b t a c)) (nw lb zb) ti (a:Int) (c:Int)
   rw[pb,pb,ec,zD] at T
   refine aR T (bS _ _ (vg dr lc zc lb zb (by omega) hb)) (ak _ _) (al _ _) ?_
   refine Tr.ae (fun h0=>?_) (fun h0=>by simp (disch:=omega) only[nV,nW] at h0;omega)
   refine Tr.ag (by rw[eL];simp (disch:=omega) only[nV,nW];omega) (Tr.ag (by simp (disch:=omega) only[nV,nW]) (Tr.ag (by rw[eL];simp (disch:=omega) only[nV,nW];omega) (Tr.ae (fun q=>?_) (fun q=>?_))))
   · refine Tr.aj rfl (Tr.ae (fun r=>?_) (fun r=>?_))
     · refine Tr.ag (by rw[eL];simp (disch:=omega) only[nV,nW];omega) (Tr.ag (by simp (disch:=omega) only[nV,nW]) (Tr.ag (by rw[eL];simp (disch:=omega) only[nV,nW];omega) (Tr.ah ⟨rfl,?_⟩)))
       rw[A7 lc lb zb b t a c (by rw[q,r];rfl)];rfl
     · refine Tr.ah ⟨rfl,?_⟩
       rw[qz lc lb zb b t a c (by rw[q,r];rfl)];rfl
   · refine Tr.ah ⟨rfl,?_⟩
     rw[qz lc lb zb b t a c (by rw[q];rfl)];rfl
 · obtain ⟨x,h1,rfl⟩:=aR (Q:=fun x=>x=(.exit 6,nU 1 lc (LL lc) ti (a:Int) (Int.ofNat lc)++[(38,.bool false)],eB dr lc zc lb zb [b7 (LL lc) (cZ (bG lc b t)),b7 (LL lc) (cZ (sP lc lb zb b t a lc))]::H)) (HD (n+1) dr lc (LL lc) zc lb zb H (cZ (bG lc b t)) (cZ (sP lc lb zb b t a lc)) (nw lb zb) ti (a:Int) (Int.ofNat lc)) (bS _ _ (vg dr lc zc lb zb (by omega) hb)) (ak _ _) (al _ _) (by
    refine Tr.ae (fun h0=>by simp (disch:=omega) only[nV,nW] at h0;omega) (fun h0=>Tr.ah rfl))
   exact h1
theorem SV (t:Nat) (hl:lc≤10) (hb:lb≤1000) (ti:Int):exec (b5 (n+1) 64 66) (.block 4 (.loop (part Tryd.f64 [1,1,1,1,0,1,0,0,1,0,0,1,0,1,0,0]))) (ll 1 lc (LL lc) ti (Int.ofNat 0)) (eB dr lc zc lb zb [b7 (LL lc) (cZ (bG lc b t)),b7 (LL lc) (cZ (sO lc lb zb b t 0))]::H) =
 some (.normal,ll 1 lc (LL lc) ti (Int.ofNat lc)++[(33,.bool false)],eB dr lc zc lb zb [b7 (LL lc) (cZ (bG lc b t)),b7 (LL lc) (cZ (sO lc lb zb b t lc))]::H):=by
 refine qj (n:=n+1) (f:=64) (nt:=66) (c:=part Tryd.f64 [1,1,1,1,0,1,0,0,1,0,0,1,0,1,0,0]) 4 (fun a=>ll 1 lc (LL lc) ti (a:Int)) (fun a=>eB dr lc zc lb zb [b7 (LL lc) (cZ (bG lc b t)),b7 (LL lc) (cZ (sO lc lb zb b t a))]::H) lc (_,_) (by omega) (fun a ha=>?_) ?_
 · have ec:bf .i64 (a:Int) (Int.ofNat 1)=((a+1:Nat):Int):=ft (by omega)
   have hC:=SX n dr lc zc lb zb b H t a hl hb ha ti
   rw[Hv,A6] at hC
   have T:=LW (n+1) dr lc (LL lc) zc lb zb H (cZ (bG lc b t)) (cZ (sO lc lb zb b t a)) (cZ (sO lc lb zb b t (a+1))) ti (a:Int)
   rw[ec] at T
   refine aR T (aJ _) (br (ak _ _) Hd (fun x h=>by rw[← Tr.ab h];simp only[gK.st,bp];exact hC)) (al _ _) ?_
   refine Tr.ae (fun h0=>Tr.aj ⟨rfl,rfl⟩ (Tr.ah ⟨rfl,rfl⟩)) (fun h0=>by simp (disch:=omega) only[nV,nW] at h0;omega)
 · obtain ⟨x,h1,rfl⟩:=aR (Q:=fun x=>x=(.exit 4,ll 1 lc (LL lc) ti (Int.ofNat lc)++[(33,.bool false)],eB dr lc zc lb zb [b7 (LL lc) (cZ (bG lc b t)),b7 (LL lc) (cZ (sO lc lb zb b t lc))]::H)) (J1 (n+1) dr lc (LL lc) zc lb zb H (cZ (bG lc b t)) (cZ (sO lc lb zb b t lc)) ti (Int.ofNat lc)) (aJ _) (cW (ak _ _) 6) (al _ _) (by
    refine Tr.ae (fun h0=>by simp (disch:=omega) only[nV,nW] at h0;omega) (fun h0=>Tr.ah rfl))
   exact h1
theorem SY (g:Nat→Int) (t a:Nat) (hl:lc≤10) (hb:lb≤1000) (ha:a<lc) (ti:Int):exec (b5 (n+1) 64 66) (.block 6 (.loop (part Tryd.f64 [1,1,1,1,0,1,0,0,1,0,0,1,0,1,0,0,1,0,0,1,0,0]))) (nU 2 lc (LL lc) ti (a:Int) (Int.ofNat 0)) (eB dr lc zc lb zb [b7 (LL lc) g,b7 (LL lc) (cZ (bG lc b t)),b7 (LL lc) (cZ (sP lc lb zb b t a 0))]::H) =
 some (.normal,nU 2 lc (LL lc) ti (a:Int) (Int.ofNat lc)++[(38,.bool false)],eB dr lc zc lb zb [b7 (LL lc) g,b7 (LL lc) (cZ (bG lc b t)),b7 (LL lc) (cZ (sP lc lb zb b t a lc))]::H):=by
 have eL:=Af lc
 refine qj (n:=n+1) (f:=64) (nt:=66) (c:=part Tryd.f64 [1,1,1,1,0,1,0,0,1,0,0,1,0,1,0,0,1,0,0,1,0,0]) 6 (fun c=>nU 2 lc (LL lc) ti (a:Int) (c:Int)) (fun c=>eB dr lc zc lb zb [b7 (LL lc) g,b7 (LL lc) (cZ (bG lc b t)),b7 (LL lc) (cZ (sP lc lb zb b t a c))]::H) lc (_,_) (by omega) (fun c hc=>?_) ?_
 · have ec:bf .i64 (c:Int) (Int.ofNat 1)=((c+1:Nat):Int):=ft (by omega)
   have T:=HF (n+1) dr lc (LL lc) zc lb zb H g (cZ (bG lc b t)) (cZ (sP lc lb zb b t a c)) (nw lb zb) ti (a:Int) (c:Int)
   rw[pb,pb,ec,zD] at T
   refine aR T (bS _ _ (vg dr lc zc lb zb (by omega) hb)) (ak _ _) (al _ _) ?_
   refine Tr.ae (fun h0=>?_) (fun h0=>by simp (disch:=omega) only[nV,nW] at h0;omega)
   refine Tr.ag (by rw[eL];simp (disch:=omega) only[nV,nW];omega) (Tr.ag (by simp (disch:=omega) only[nV,nW]) (Tr.ag (by rw[eL];simp (disch:=omega) only[nV,nW];omega) (Tr.ae (fun q=>?_) (fun q=>?_))))
   · refine Tr.aj rfl (Tr.ae (fun r=>?_) (fun r=>?_))
     · refine Tr.ag (by rw[eL];simp (disch:=omega) only[nV,nW];omega) (Tr.ag (by simp (disch:=omega) only[nV,nW]) (Tr.ag (by rw[eL];simp (disch:=omega) only[nV,nW];omega) (Tr.ah ⟨rfl,?_⟩)))
       rw[A7 lc lb zb b t a c (by rw[q,r];rfl)];rfl
     · refine Tr.ah ⟨rfl,?_⟩
       rw[qz lc lb zb b t a c (by rw[q,r];rfl)];rfl
   · refine Tr.ah ⟨rfl,?_⟩
     rw[qz lc lb zb b t a c (by rw[q];rfl)];rfl
 · obtain ⟨x,h1,rfl⟩:=aR (Q:=fun x=>x=(.exit 6,nU 2 lc (LL lc) ti (a:Int) (Int.ofNat lc)++[(38,.bool false)],eB dr lc zc lb zb [b7 (LL lc) g,b7 (LL lc) (cZ (bG lc b t)),b7 (LL lc) (cZ (sP lc lb zb b t a lc))]::H)) (HF (n+1) dr lc (LL lc) zc lb zb H g (cZ (bG lc b t)) (cZ (sP lc lb zb b t a lc)) (nw lb zb) ti (a:Int) (Int.ofNat lc)) (bS _ _ (vg dr lc zc lb zb (by omega) hb)) (ak _ _) (al _ _) (by
    refine Tr.ae (fun h0=>by simp (disch:=omega) only[nV,nW] at h0;omega) (fun h0=>Tr.ah rfl))
   exact h1
theorem SW (g:Nat→Int) (t:Nat) (hl:lc≤10) (hb:lb≤1000) (ti:Int):exec (b5 (n+1) 64 66) (.block 4 (.loop (part Tryd.f64 [1,1,1,1,0,1,0,0,1,0,0,1,0,1,0,0]))) (ll 2 lc (LL lc) ti (Int.ofNat 0)) (eB dr lc zc lb zb [b7 (LL lc) g,b7 (LL lc) (cZ (bG lc b t)),b7 (LL lc) (cZ (sO lc lb zb b t 0))]::H) =
 some (.normal,ll 2 lc (LL lc) ti (Int.ofNat lc)++[(33,.bool false)],eB dr lc zc lb zb [b7 (LL lc) g,b7 (LL lc) (cZ (bG lc b t)),b7 (LL lc) (cZ (sO lc lb zb b t lc))]::H):=by
 refine qj (n:=n+1) (f:=64) (nt:=66) (c:=part Tryd.f64 [1,1,1,1,0,1,0,0,1,0,0,1,0,1,0,0]) 4 (fun a=>ll 2 lc (LL lc) ti (a:Int)) (fun a=>eB dr lc zc lb zb [b7 (LL lc) g,b7 (LL lc) (cZ (bG lc b t)),b7 (LL lc) (cZ (sO lc lb zb b t a))]::H) lc (_,_) (by omega) (fun a ha=>?_) ?_
 · have ec:bf .i64 (a:Int) (Int.ofNat 1)=((a+1:Nat):Int):=ft (by omega)
   have hC:=SY n dr lc zc lb zb b H g t a hl hb ha ti
   rw[Hv,A6] at hC
   have T:=LX (n+1) dr lc (LL lc) zc lb zb H g (cZ (bG lc b t)) (cZ (sO lc lb zb b t a)) (cZ (sO lc lb zb b t (a+1))) ti (a:Int)
   rw[ec] at T
   refine aR T (aJ _) (br (ak _ _) Hd (fun x h=>by rw[← Tr.ab h];simp only[gK.st,bp];exact hC)) (al _ _) ?_
   refine Tr.ae (fun h0=>Tr.aj ⟨rfl,rfl⟩ (Tr.ah ⟨rfl,rfl⟩)) (fun h0=>by simp (disch:=omega) only[nV,nW] at h0;omega)
 · obtain ⟨x,h1,rfl⟩:=aR (Q:=fun x=>x=(.exit 4,ll 2 lc (LL lc) ti (Int.ofNat lc)++[(33,.bool false)],eB dr lc zc lb zb [b7 (LL lc) g,b7 (LL lc) (cZ (bG lc b t)),b7 (LL lc) (cZ (sO lc lb zb b t lc))]::H)) (J2 (n+1) dr lc (LL lc) zc lb zb H g (cZ (bG lc b t)) (cZ (sO lc lb zb b t lc)) ti (Int.ofNat lc)) (aJ _) (cW (ak _ _) 6) (al _ _) (by
    refine Tr.ae (fun h0=>by simp (disch:=omega) only[nV,nW] at h0;omega) (fun h0=>Tr.ah rfl))
   exact h1
end
end Go.Eng
end
section
namespace Go.Eng
open Go.Proofs Go.Eng.Gall
theorem IZ (p:Nat→Bool) (n:Nat):c5 p n=(List.range n).any p:=by
 rw[Bool.eq_iff_iff,cH,List.any_eq_true]
 constructor
 · rintro ⟨i,h1,h2⟩;exact ⟨i,List.mem_range.2 h1,h2⟩
 · rintro ⟨i,h1,h2⟩;exact ⟨i,List.mem_range.1 h1,h2⟩
section
variable (n:Nat) (dr:Int) (lc:Nat) (zc:Nat→Int) (lb:Nat) (zb:Nat→Int) (b:Nat→Nat) (H:aa)
theorem S1:cZ (fun c=>decide (c<0))=fun _=>Int.ofNat 0:=by funext j;unfold cZ;simp
theorem Gg (j:Nat):ju (cZ (fun c=>decide (c<j))) j (Int.ofNat 1)=cZ (fun c=>decide (c<j+1)):=by
 rw[kP];funext c;unfold cZ
 by_cases e:c=j
 · subst e;rw[if_pos rfl,if_pos (by simp)];rfl
 · rw[if_neg e]
   by_cases h:c<j
   · rw[if_pos (decide_eq_true h),if_pos (decide_eq_true (by omega))]
   · rw[if_neg (by simpa using h),if_neg (by simp;omega)]
theorem N3 (hl:lc≤10):exec (b5 (n+1) 64 66) (.block 0 (.loop (part Tryd.f64 [1,1,1,0,1,0,0]))) (mr 1 lc (LL lc) 5 (Int.ofNat 0)) (eB dr lc zc lb zb [b7 (LL lc) (cZ (fun c=>decide (c<0)))]::H) =
 some (.normal,mr 1 lc (LL lc) 5 (Int.ofNat lc)++[(18,.bool false)],eB dr lc zc lb zb [b7 (LL lc) (cZ (fun c=>decide (c<lc)))]::H):=by
 have eL:=Af lc
 refine qj (n:=n+1) (f:=64) (nt:=66) (c:=part Tryd.f64 [1,1,1,0,1,0,0]) 0 (fun j=>mr 1 lc (LL lc) 5 (j:Int)) (fun j=>eB dr lc zc lb zb [b7 (LL lc) (cZ (fun c=>decide (c<j)))]::H) lc (_,_) (by omega) (fun j hj=>?_) ?_
 · have ej:bf .i64 (j:Int) (Int.ofNat 1)=((j+1:Nat):Int):=ft (by omega)
   have T:=LV (n+1) dr lc (LL lc) zc lb zb H (cZ (fun c=>decide (c<j))) (j:Int)
   rw[pb,ej,Gg] at T
   refine aR T (aJ _) (ak _ _) (al _ _) ?_
   refine Tr.ae (fun h0=>?_) (fun h0=>by simp (disch:=omega) only[nV,nW] at h0;omega)
   exact Tr.ag (by rw[eL];simp (disch:=omega) only[nV,nW];omega) (Tr.ag (by simp (disch:=omega) only[nV,nW]) (Tr.ag (by rw[eL];simp (disch:=omega) only[nV,nW];omega) (Tr.ah ⟨rfl,rfl⟩)))
 · obtain ⟨x,h1,rfl⟩:=aR (Q:=fun x=>x=(.exit 0,mr 1 lc (LL lc) 5 (Int.ofNat lc)++[(18,.bool false)],eB dr lc zc lb zb [b7 (LL lc) (cZ (fun c=>decide (c<lc)))]::H)) (LV (n+1) dr lc (LL lc) zc lb zb H (cZ (fun c=>decide (c<lc))) (Int.ofNat lc)) (aJ _) (ak _ _) (al _ _) (by
    refine Tr.ae (fun h0=>by simp (disch:=omega) only[nV,nW] at h0;omega) (fun h0=>Tr.ah rfl))
   exact h1
noncomputable def Qv (lc:Nat):Nat→au
 | 0=>mr 1 lc (LL lc) 6 (Int.ofNat 0)
 | t+1=>mr 2 lc (LL lc) 6 ((t+1:Nat):Int)
noncomputable def K7:Nat→aa
 | 0=>eB dr lc zc lb zb [b7 (LL lc) (cZ (bG lc b 0))]::H
 | t+1=>eB dr lc zc lb zb [b7 (LL lc) (cZ (bG lc b 0)),b7 (LL lc) (cZ (bG lc b (t+1)))]::H
theorem N1 (hl:lc≤10) (h1:1≤lc) (hb:lb≤1000) (hB:b=fun c=>jb zb c lb) (hp:fz lc lb zb):exec (b5 (n+1) 64 66) (.block 2 (.loop (part Tryd.f64 [1,1,1,1,0,1,0,0]))) (Qv lc 0) (K7 dr lc zc lb zb b H 0) =
 some (.normal,mr 2 lc (LL lc) 6 (Int.ofNat lc)++[(26,.bool false)],K7 dr lc zc lb zb b H lc):=by
 have mk8:CN (Int.ofNat lc) (Int.ofNat lc) 8=true:=by simp (disch:=omega) only[nV,nW];omega
 refine qj (n:=n+1) (f:=64) (nt:=66) (c:=part Tryd.f64 [1,1,1,1,0,1,0,0]) 2 (Qv lc) (K7 dr lc zc lb zb b H) lc (_,_) (by omega) (fun t ht=>?_) ?_
 · have ec:bf .i64 (t:Int) (Int.ofNat 1)=((t+1:Nat):Int):=ft (by omega)
   cases t with
   | zero =>
     have hx:=SV n dr lc zc lb zb b H 0 hl hb (((0:Nat)):Int)
     rw[Hu,Ec lc lb zb hB hp] at hx
     have T:=LZ (n+1) dr lc zc lb zb H (cZ (bG lc b 0)) (cZ (bG lc b (0+1))) (((0:Nat)):Int)
     rw[ec] at T
     refine aR T (aJ _) (br (ak _ _) Hc (fun x h=>by rw[← Tr.ab h];simp only[gK.st,bp];exact hx)) (al _ _) ?_
     exact Tr.ae (fun h0=>Tr.ag mk8 (Tr.aj ⟨rfl,rfl⟩ (Tr.ah ⟨rfl,rfl⟩))) (fun h0=>by simp (disch:=omega) only[nV,nW] at h0;omega)
   | succ t =>
     have hx:=SW n dr lc zc lb zb b H (cZ (bG lc b 0)) (t+1) hl hb (((t+1:Nat)):Int)
     rw[Hu,Ec lc lb zb hB hp] at hx
     have T:=L0 (n+1) dr lc zc lb zb H (cZ (bG lc b 0)) (cZ (bG lc b (t+1))) (cZ (bG lc b (t+1+1))) (((t+1:Nat)):Int)
     rw[ec] at T
     refine aR T (aJ _) (br (ak _ _) Hc (fun x h=>by rw[← Tr.ab h];simp only[gK.st,bp];exact hx)) (al _ _) ?_
     exact Tr.ae (fun h0=>Tr.ag mk8 (Tr.aj ⟨rfl,rfl⟩ (Tr.ah ⟨rfl,rfl⟩))) (fun h0=>by simp (disch:=omega) only[nV,nW] at h0;omega)
 · obtain ⟨m,rfl⟩:∃ m,lc=m+1:=⟨lc-1,by omega⟩
   obtain ⟨x,h1,rfl⟩:=aR (Q:=fun x=>x=(.exit 2,mr 2 (m+1) (LL (m+1)) 6 (Int.ofNat (m+1))++[(26,.bool false)],K7 dr (m+1) zc lb zb b H (m+1))) (J3 (n+1) dr (m+1) (LL (m+1)) zc lb zb H (cZ (bG (m+1) b 0)) (cZ (bG (m+1) b (m+1))) (Int.ofNat (m+1))) (aJ _) (cW (ak _ _) 4) (al _ _) (by
    refine Tr.ae (fun h0=>by simp (disch:=omega) only[nV,nW] at h0;omega) (fun h0=>Tr.ah rfl))
   exact h1
theorem N2 (hl:lc≤10) (g:Nat→Int) (p:Nat→Bool):exec (b5 (n+1) 64 66) (.block 8 (.loop (part Tryd.f64 [1,1,1,1,1,0,1,0,0]))) (zk lc (LL lc) (Int.ofNat 0)) (eB dr lc zc lb zb [b7 (LL lc) g,b7 (LL lc) (cZ p)]::H) =
 some (cond (c5 p lc) (.ret,[(2,.bool true)],eB dr lc zc lb zb [b7 (LL lc) g,b7 (LL lc) (cZ p)]::H) (.normal,zk lc (LL lc) (Int.ofNat lc)++[(58,.bool false)],eB dr lc zc lb zb [b7 (LL lc) g,b7 (LL lc) (cZ p)]::H)):=by
 have eL:=Af lc
 refine fF (n:=n+1) (f:=64) (nt:=66) (c:=part Tryd.f64 [1,1,1,1,1,0,1,0,0]) 8 (fun j=>zk lc (LL lc) (j:Int)) (fun _=>eB dr lc zc lb zb [b7 (LL lc) g,b7 (LL lc) (cZ p)]::H) lc p (fun j=>([(2,.bool true)],eB dr lc zc lb zb [b7 (LL lc) g,b7 (LL lc) (cZ p)]::H)) (_,_) (by omega) (fun j hj=>?_) ?_
 · have ej:bf .i64 (j:Int) (Int.ofNat 1)=((j+1:Nat):Int):=ft (by omega)
   have T:=LY (n+1) dr lc (LL lc) zc lb zb H g (cZ p) (j:Int)
   rw[pb,ej,zD] at T
   refine aR T (aJ _) (ak _ _) (al _ _) ?_
   refine Tr.ae (fun h0=>?_) (fun h0=>by simp (disch:=omega) only[nV,nW] at h0;omega)
   refine Tr.ag (by rw[eL];simp (disch:=omega) only[nV,nW];omega) (Tr.ag (by simp (disch:=omega) only[nV,nW]) (Tr.ag (by rw[eL];simp (disch:=omega) only[nV,nW];omega) (Tr.ae (fun q=>Tr.ah ?_) (fun q=>Tr.ah ?_))))
   · rw[if_pos q];rfl
   · rw[if_neg (by rw[q];decide)];exact ⟨rfl,rfl⟩
 · obtain ⟨x,h1,rfl⟩:=aR (Q:=fun x=>x=(.exit 8,zk lc (LL lc) (Int.ofNat lc)++[(58,.bool false)],eB dr lc zc lb zb [b7 (LL lc) g,b7 (LL lc) (cZ p)]::H)) (LY (n+1) dr lc (LL lc) zc lb zb H g (cZ p) (Int.ofNat lc)) (aJ _) (ak _ _) (al _ _) (by
    refine Tr.ae (fun h0=>by simp (disch:=omega) only[nV,nW] at h0;omega) (fun h0=>Tr.ah rfl))
   exact h1
theorem Q4 (hl:lc≤10) (h1:1≤lc) (hb:lb≤1000) (hp:fz lc lb zb):cd (n+2) (.fn 64) [cM dr lc zc lb zb] H=some (.bool (sL lc (fun c=>jb zb c lb)),H):=by
 have e1:=N3 n dr lc zc lb zb H hl
 rw[S1] at e1
 have e2:=N1 n dr lc zc lb zb (fun c=>jb zb c lb) H hl h1 hb rfl hp
 have e3:=N2 n dr lc zc lb zb H hl (cZ (bG lc (fun c=>jb zb c lb) 0)) (bG lc (fun c=>jb zb c lb) lc)
 have hT:K7 dr lc zc lb zb (fun c=>jb zb c lb) H lc=eB dr lc zc lb zb [b7 (LL lc) (cZ (bG lc (fun c=>jb zb c lb) 0)),b7 (LL lc) (cZ (bG lc (fun c=>jb zb c lb) lc))]::H:=by
  obtain ⟨m,rfl⟩:∃ m,lc=m+1:=⟨lc-1,by omega⟩
  rfl
 rw[hT] at e2
 refine bK (n:=n+1) Tryd.func64 rfl rfl rfl (u64 (n+1) dr lc zc lb zb H (cZ (bG lc (fun c=>jb zb c lb) 0)) (cZ (bG lc (fun c=>jb zb c lb) 0)) (cZ (bG lc (fun c=>jb zb c lb) lc)) (c5 (bG lc (fun c=>jb zb c lb) lc) lc)) (aJ _) (br (br (br (ak _ _) Ky (fun x h=>by rw[← Tr.ab h];simp only[gK.st,bp];exact e1)) Kz (fun x h=>by rw[← Tr.ab h];simp only[gK.st,bp];exact e2)) KA (fun x h=>cC h e3)) (al _ _) ?_
 have mk8:CN (Int.ofNat lc) (Int.ofNat lc) 8=true:=by simp (disch:=omega) only[nV,nW];omega
 have eb:c5 (bG lc (fun c=>jb zb c lb) lc) lc=sL lc (fun c=>jb zb c lb):=IZ _ _
 rw[eb]
 refine Tr.ag mk8 (Tr.aj ⟨rfl,rfl⟩ (Tr.aj ⟨rfl,rfl⟩ (Tr.aj ⟨rfl,rfl⟩ (Tr.ae (fun q=>Tr.ah ⟨?_,rfl⟩) (fun q=>Tr.ah ⟨?_,rfl⟩)))))
 · rw[q]
 · rw[q]
end
end Go.Eng
end
section
namespace Go.Eng
open Go.Proofs
noncomputable def mO (s:Nat) (j:Int):au:=[(1,.ptr 0 0 0 0),(s,.int .i64 j)]
noncomputable def zf (j k:Int):au:=[(1,.ptr 0 0 0 0),(5,.int .i64 j),(6,.ptr 0 1 0 0),(7,.int .i64 k)]
noncomputable def Cw (a b:Int):Nat×az:=(0,.row (.I .i64 [a,b]))
theorem LI (n:Nat) (dr:Int) (lc:Nat) (zc:Nat→Int) (lb:Nat) (zb:Nat→Int) (H:aa) (j:Int):aT (b5 n 23 125) (il aV n 0) bc ba (part Tryd.f23 [1,1,1,0,1,0,0]) (hints (mO 3 j)) (cO dr lc zc lb zb::H) =
 (fun (Z0:bH)=>((fun (Z1:aN)=>Tr.ite (cY j (Int.ofNat lc)) (Tr.req (c7 j lc) (Tr.req (cI (aM 0 j 4) (aw lc 4)) (Tr.req (cI (aF (aM 0 j 4) 1) (aw lc 4)) (Tr.req (cI (aF (aM 0 j 4) 2) (aw lc 4)) (Tr.req (cI (aF (aM 0 j 4) 3) (aw lc 4)) (Tr.ite (cY (zc (aM 0 j 4)) (Int.ofNat 0)) (Tr.ok (Ex.ret,Z1,Z0::H)) (Tr.ite (cY (zc (aF (aM 0 j 4) 1)) (zc (aM 0 j 4))) (Tr.ok (Ex.ret,Z1,Z0::H)) (Tr.ite (cY (Int.ofNat 1000) (zc (aF (aM 0 j 4) 1))) (Tr.ok (Ex.ret,Z1,Z0::H)) (Tr.ite (cY (zc (aF (aM 0 j 4) 2)) (Int.ofNat 0)) (Tr.ok (Ex.ret,Z1,Z0::H)) (Tr.ite (cY (zc (aF (aM 0 j 4) 3)) (zc (aF (aM 0 j 4) 2))) (Tr.ok (Ex.ret,Z1,Z0::H)) (Tr.ite (cY (Int.ofNat 1000) (zc (aF (aM 0 j 4) 3))) (Tr.ok (Ex.ret,Z1,Z0::H)) (Tr.ok (Ex.normal,[(1,AV.ptr 0 0 0 0,none),(3,AV.int .i64 (bf .i64 j (Int.ofNat 1)),none)],Z0::H))))))))))))) (Tr.ok (Ex.exit 0,[(1,AV.ptr 0 0 0 0,none),(3,AV.int .i64 j,none),(36,AV.bool false,some 1)],{ lock:=false,bs:=[(0,az.row (Row.G [AV.int .i64 dr,AV.slcT none (Row.M [aq.arr .i64 zc (aw lc 4)]) 4 lc false,AV.slcT none (Row.M [aq.arr .i64 zb (aw lb 2)]) 2 lb false]))] } :: H))) [(2,AV.int .i64 (Int.ofNat 3),some 1)])) { lock:=false,bs:=[(0,az.row (Row.G [AV.int .i64 dr,AV.slcT none (Row.M [aq.arr .i64 zc (aw lc 4)]) 4 lc false,AV.slcT none (Row.M [aq.arr .i64 zb (aw lb 2)]) 2 lb false])),(0,az.row (Row.I .i64 [zc (aM 0 j 4),zc (aF (aM 0 j 4) 1),zc (aF (aM 0 j 4) 2),zc (aF (aM 0 j 4) 3)]))] }:=by kernel_rfl
theorem LK (n:Nat) (dr:Int) (lc:Nat) (zc:Nat→Int) (lb:Nat) (zb:Nat→Int) (H:aa) (a b j k:Int):aT (b5 n 23 125) (il aV n 0) bc ba (part Tryd.f23 [1,1,1,1,0,1,0,0,1,0,0,1,1,1,0,0]) (hints (zf j k)) (eB dr lc zc lb zb [Cw a b]::H) =
 (fun (Z0:bH)=>Tr.ite (cY k j) (Tr.req (c7 k lb) (Tr.req (cI (aM 0 k 2) (aw lb 2)) (Tr.req (cI (aF (aM 0 k 2) 1) (aw lb 2)) (Tr.ite (cr (cK (zb (aM 0 k 2)) a) (cK (zb (aF (aM 0 k 2) 1)) b)) (Tr.ok (Ex.ret,[(2,AV.int .i64 (Int.ofNat 2),some 1)],Z0::H)) (Tr.ok (Ex.normal,[(1,AV.ptr 0 0 0 0,none),(5,AV.int .i64 j,none),(6,AV.ptr 0 1 0 0,none),(7,AV.int .i64 (bf .i64 k (Int.ofNat 1)),none)],Z0::H)))))) (Tr.ok (Ex.exit 4,[(1,AV.ptr 0 0 0 0,none),(5,AV.int .i64 j,none),(6,AV.ptr 0 1 0 0,none),(7,AV.int .i64 k,none),(113,AV.bool false,some 1)],Z0::H))) { lock:=false,bs:=[(0,az.row (Row.G [AV.int .i64 dr,AV.slcT none (Row.M [aq.arr .i64 zc (aw lc 4)]) 4 lc false,AV.slcT none (Row.M [aq.arr .i64 zb (aw lb 2)]) 2 lb false])),(0,az.row (Row.I .i64 [a,b]))] }:=by kernel_rfl
theorem O6 (n:Nat) (dr:Int) (lc:Nat) (zc:Nat→Int) (lb:Nat) (zb:Nat→Int) (H:aa) (j:Int) (e:Bool):aT (b5 (n+1) 23 125) (il aV n 1) (dy bc 4 (zf j (Int.ofNat 0)) (eB dr lc zc lb zb [Cw (zb (aM 0 j 2)) (zb (aF (aM 0 j 2) 1))]::H) (.ite e (.ok (.ret,[(2,.int .i64 2,none)],eB dr lc zc lb zb [Cw (zb (aM 0 j 2)) (zb (aF (aM 0 j 2) 1))]::H)) (.ok (.normal,hints (zf j j++[(113,.bool false)]),eB dr lc zc lb zb [Cw (zb (aM 0 j 2)) (zb (aF (aM 0 j 2) 1))]::H)))) ba (part Tryd.f23 [1,1,1,1,0,1,0,0]) (hints (mO 5 j)) (cO dr lc zc lb zb::H) =
 (fun (Z0:bH)=>((fun (Z1:aN)=>((fun (Z2:au)=>Tr.ite (cY j (Int.ofNat lb)) (Tr.req (c7 j lb) (Tr.req (cI (aM 0 j 2) (aw lb 2)) (Tr.req (cI (aF (aM 0 j 2) 1) (aw lb 2)) (Tr.req (c7 (Int.ofNat 0) 2) (Tr.ite (eh (Int.ofNat 0) (zb (aM 0 j 2))) (Tr.ite (bz (cY (zb (aM 0 j 2)) (Int.ofNat lc))) (Tr.ok (Ex.ret,Z1,Z0::H)) (Tr.req (c7 (Int.ofNat 1) 2) (Tr.ite (eh (Int.ofNat 0) (zb (aF (aM 0 j 2) 1))) (Tr.ite (bz (cY (zb (aF (aM 0 j 2) 1)) (Int.ofNat lc))) (Tr.ok (Ex.ret,Z1,Z0::H)) (Tr.req (c7 (Int.ofNat 0) 2) (Tr.req (c7 (Int.ofNat 1) 2) (Tr.ite (cK (zb (aM 0 j 2)) (zb (aF (aM 0 j 2) 1))) (Tr.ok (Ex.ret,Z1,Z0::H)) (Tr.reqP (Z2=Z2∧Z0::H=Z0::H) (Tr.ite e (Tr.ok (Ex.ret,[(2,AV.int .i64 (Int.ofNat 2),none)],Z0::H)) (Tr.ok (Ex.normal,[(1,AV.ptr 0 0 0 0,none),(5,AV.int .i64 (bf .i64 j (Int.ofNat 1)),none)],Z0::H)))))))) (Tr.ok (Ex.ret,Z1,Z0::H))))) (Tr.ok (Ex.ret,Z1,Z0::H))))))) (Tr.ok (Ex.exit 2,[(1,AV.ptr 0 0 0 0,none),(5,AV.int .i64 j,none),(84,AV.bool false,some 1)],{ lock:=false,bs:=[(0,az.row (Row.G [AV.int .i64 dr,AV.slcT none (Row.M [aq.arr .i64 zc (aw lc 4)]) 4 lc false,AV.slcT none (Row.M [aq.arr .i64 zb (aw lb 2)]) 2 lb false]))] } :: H))) [(1,AV.ptr 0 0 0 0),(5,AV.int .i64 j),(6,AV.ptr 0 1 0 0),(7,AV.int .i64 (Int.ofNat 0))])) [(2,AV.int .i64 (Int.ofNat 2),some 1)])) { lock:=false,bs:=[(0,az.row (Row.G [AV.int .i64 dr,AV.slcT none (Row.M [aq.arr .i64 zc (aw lc 4)]) 4 lc false,AV.slcT none (Row.M [aq.arr .i64 zb (aw lb 2)]) 2 lb false])),(0,az.row (Row.I .i64 [zb (aM 0 j 2),zb (aF (aM 0 j 2) 1)]))] }:=by kernel_rfl
theorem LJ (n:Nat) (dr:Int) (lc:Nat) (zc:Nat→Int) (lb:Nat) (zb:Nat→Int) (H:aa) (j:Int):aT (b5 (n+1) 23 125) (il aV n 1) (gH bc 4) ba (part Tryd.f23 [1,1,1,1,0,1,0,0]) (hints (mO 5 j)) (cO dr lc zc lb zb::H) =
 (fun (Z0:bH)=>((fun (Z1:aN)=>Tr.ite (cY j (Int.ofNat lb)) (Tr.req (c7 j lb) (Tr.req (cI (aM 0 j 2) (aw lb 2)) (Tr.req (cI (aF (aM 0 j 2) 1) (aw lb 2)) (Tr.req (c7 (Int.ofNat 0) 2) (Tr.ite (eh (Int.ofNat 0) (zb (aM 0 j 2))) (Tr.ite (bz (cY (zb (aM 0 j 2)) (Int.ofNat lc))) (Tr.ok (Ex.ret,Z1,Z0::H)) (Tr.req (c7 (Int.ofNat 1) 2) (Tr.ite (eh (Int.ofNat 0) (zb (aF (aM 0 j 2) 1))) (Tr.ite (bz (cY (zb (aF (aM 0 j 2) 1)) (Int.ofNat lc))) (Tr.ok (Ex.ret,Z1,Z0::H)) (Tr.req (c7 (Int.ofNat 0) 2) (Tr.req (c7 (Int.ofNat 1) 2) (Tr.ite (cK (zb (aM 0 j 2)) (zb (aF (aM 0 j 2) 1))) (Tr.ok (Ex.ret,Z1,Z0::H)) Tr.bad)))) (Tr.ok (Ex.ret,Z1,Z0::H))))) (Tr.ok (Ex.ret,Z1,Z0::H))))))) (Tr.ok (Ex.exit 2,[(1,AV.ptr 0 0 0 0,none),(5,AV.int .i64 j,none),(84,AV.bool false,some 1)],{ lock:=false,bs:=[(0,az.row (Row.G [AV.int .i64 dr,AV.slcT none (Row.M [aq.arr .i64 zc (aw lc 4)]) 4 lc false,AV.slcT none (Row.M [aq.arr .i64 zb (aw lb 2)]) 2 lb false]))] } :: H))) [(2,AV.int .i64 (Int.ofNat 2),some 1)])) { lock:=false,bs:=[(0,az.row (Row.G [AV.int .i64 dr,AV.slcT none (Row.M [aq.arr .i64 zc (aw lc 4)]) 4 lc false,AV.slcT none (Row.M [aq.arr .i64 zb (aw lb 2)]) 2 lb false])),(0,az.row (Row.I .i64 [zb (aM 0 j 2),zb (aF (aM 0 j 2) 1)]))] }:=by kernel_rfl
theorem Tp (n:Nat) (dr:Int) (lc:Nat) (zc:Nat→Int) (lb:Nat) (zb:Nat→Int) (H:aa) (e1 e2 e3:Bool) (l1 l2:bH) (C:List AV→Prop):bu Tryd.prog (cd n) 100000 23 Tryd.f23 (KtG.kt 23) (il (l6 aV 64 (gB e3 C)) n 0) (dy (dy bc 0 (mO 3 (Int.ofNat 0)) (cO dr lc zc lb zb::H) (.ite e1 (.ok (.ret,[(2,.int .i64 3,none)],l1::H)) (.ok (.normal,hints (mO 3 (Int.ofNat lc)++[(36,.bool false)]),cO dr lc zc lb zb::H)))) 2 (mO 5 (Int.ofNat 0)) (cO dr lc zc lb zb::H) (.ite e2 (.ok (.ret,[(2,.int .i64 2,none)],l2::H)) (.ok (.normal,hints (mO 5 (Int.ofNat lb)++[(84,.bool false)]),cO dr lc zc lb zb::H)))) ba [(cM dr lc zc lb zb,none)] H =
 (fun (Z0:Row)=>((fun (Z1:bH)=>Tr.ite (cY (Int.ofNat lc) (Int.ofNat 1)) (Tr.ok ((AV.int .i64 (Int.ofNat 6),some 1),H)) (Tr.ite (cY (Int.ofNat 10) (Int.ofNat lc)) (Tr.ok ((AV.int .i64 (Int.ofNat 6),some 1),H)) (Tr.ite (cY (Int.ofNat 40) (Int.ofNat lb)) (Tr.ok ((AV.int .i64 (Int.ofNat 6),some 1),H)) (Tr.ite (cY dr (Int.ofNat 1)) (Tr.ok ((AV.int .i64 (Int.ofNat 3),some 1),H)) (Tr.ite (cY (Int.ofNat 100) dr) (Tr.ok ((AV.int .i64 (Int.ofNat 3),some 1),H)) (Tr.reqP ([(1,AV.ptr 0 0 0 0),(3,AV.int .i64 (Int.ofNat 0))]=[(1,AV.ptr 0 0 0 0),(3,AV.int .i64 (Int.ofNat 0))]∧Z1::H=Z1::H) (Tr.ite e1 (Tr.ok ((AV.int .i64 (Int.ofNat 3),none),H)) (Tr.reqP ([(1,AV.ptr 0 0 0 0),(5,AV.int .i64 (Int.ofNat 0))]=[(1,AV.ptr 0 0 0 0),(5,AV.int .i64 (Int.ofNat 0))]∧Z1::H=Z1::H) (Tr.ite e2 (Tr.ok ((AV.int .i64 (Int.ofNat 2),none),H)) (Tr.reqP (C [AV.agg Z0]) (Tr.ite e3 (Tr.ok ((AV.int .i64 (Int.ofNat 16),some 1),H)) (Tr.ok ((AV.int .i64 (Int.ofNat 0),some 1),H))))))))))))) { lock:=false,bs:=[(0,az.row Z0)] })) (Row.G [AV.int .i64 dr,AV.slcT none (Row.M [aq.arr .i64 zc (aw lc 4)]) 4 lc false,AV.slcT none (Row.M [aq.arr .i64 zb (aw lb 2)]) 2 lb false]):=by kernel_rfl
theorem Pk (n:Nat) (dr:Int) (lc:Nat) (zc:Nat→Int) (lb:Nat) (zb:Nat→Int) (H:aa):bu Tryd.prog (cd n) 100000 23 Tryd.f23 (KtG.kt 23) (il aV n 0) (gH bc 0) ba [(cM dr lc zc lb zb,none)] H =
 Tr.ite (cY (Int.ofNat lc) (Int.ofNat 1)) (Tr.ok ((AV.int .i64 (Int.ofNat 6),some 1),H)) (Tr.ite (cY (Int.ofNat 10) (Int.ofNat lc)) (Tr.ok ((AV.int .i64 (Int.ofNat 6),some 1),H)) (Tr.ite (cY (Int.ofNat 40) (Int.ofNat lb)) (Tr.ok ((AV.int .i64 (Int.ofNat 6),some 1),H)) (Tr.ite (cY dr (Int.ofNat 1)) (Tr.ok ((AV.int .i64 (Int.ofNat 3),some 1),H)) (Tr.ite (cY (Int.ofNat 100) dr) (Tr.ok ((AV.int .i64 (Int.ofNat 3),some 1),H)) Tr.bad)))):=by kernel_rfl
end Go.Eng
end
section
namespace Go.Eng
open Go.Proofs Go.Eng.Gall
theorem Ku:∀ b,(0,b) ∈ aI (aY Tryd.f23)→b=.loop (part Tryd.f23 [1,1,1,0,1,0,0]):=eX (by kernel_rfl)
theorem Kv:∀ b,(2,b) ∈ aI (aY Tryd.f23)→b=.loop (part Tryd.f23 [1,1,1,1,0,1,0,0]):=eX (by kernel_rfl)
theorem Kw:∀ b,(4,b) ∈ aI (part Tryd.f23 [1,1,1,1,0,1,0,0])→b=.loop (part Tryd.f23 [1,1,1,1,0,1,0,0,1,0,0,1,1,1,0,0]):=eX (by kernel_rfl)
section
variable (n:Nat) (dr:Int) (lc:Nat) (zc:Nat→Int) (lb:Nat) (zb:Nat→Int) (H:aa)
noncomputable def Jq (j:Nat):bH:=eB dr lc zc lb zb [(0,.row (.I .i64 [zc (j*4),zc (j*4+1),zc (j*4+2),zc (j*4+3)]))]
theorem N4 (hl:lc≤1000):exec (b5 n 23 125) (.block 0 (.loop (part Tryd.f23 [1,1,1,0,1,0,0]))) (mO 3 (Int.ofNat 0)) (cO dr lc zc lb zb::H) =
 some (cond (c5 (iW zc) lc) (.ret,[(2,.int .i64 3)],Jq dr lc zc lb zb (fN (iW zc) lc 0)::H) (.normal,mO 3 (Int.ofNat lc)++[(36,.bool false)],cO dr lc zc lb zb::H)):=by
 refine fF (n:=n) (f:=23) (nt:=125) (c:=part Tryd.f23 [1,1,1,0,1,0,0]) 0 (fun j=>mO 3 (j:Int)) (fun _=>cO dr lc zc lb zb::H) lc (iW zc) (fun j=>([(2,.int .i64 3)],Jq dr lc zc lb zb j::H)) (_,_) (by omega) (fun j hj=>?_) ?_
 · have ej:bf .i64 (j:Int) (Int.ofNat 1)=((j+1:Nat):Int):=ft (by omega)
   have ei:aM 0 (j:Int) 4=j*4:=by rw[cG];omega
   have hs:iW zc j=!(decide (0≤zc (j*4)) && (decide (zc (j*4)≤zc (j*4+1)) && (decide (zc (j*4+1)≤1000) && (decide (0≤zc (j*4+2)) && (decide (zc (j*4+2)≤zc (j*4+3)) && decide (zc (j*4+3)≤1000)))))):=rfl
   have T:=LI n dr lc zc lb zb H (j:Int)
   rw[ei,a6,a6,a6,ej] at T
   refine aR T (aJ _) (ak _ _) (al _ _) ?_
   refine Tr.ae (fun h0=>?_) (fun h0=>by simp (disch:=omega) only[nV,nW] at h0;omega)
   refine Tr.ag (by simp (disch:=omega) only[nV,nW];omega) (Tr.ag (by simp (disch:=omega) only[nV,nW];omega) (Tr.ag (by simp (disch:=omega) only[nV,nW];omega) (Tr.ag (by simp (disch:=omega) only[nV,nW];omega) (Tr.ag (by simp (disch:=omega) only[nV,nW];omega) ?_))))
   have yes:(¬ (0≤zc (j*4)∧zc (j*4)≤zc (j*4+1)∧zc (j*4+1)≤1000∧0≤zc (j*4+2)∧zc (j*4+2)≤zc (j*4+3)∧zc (j*4+3)≤1000))→iW zc j=true:=fun h=>by rw[hs];simp;omega
   refine Tr.ae (fun q1=>Tr.ah ?_) (fun q1=>Tr.ae (fun q2=>Tr.ah ?_) (fun q2=>Tr.ae (fun q3=>Tr.ah ?_) (fun q3=>Tr.ae (fun q4=>Tr.ah ?_) (fun q4=>Tr.ae (fun q5=>Tr.ah ?_) (fun q5=>Tr.ae (fun q6=>Tr.ah ?_) (fun q6=>Tr.ah ?_))))))
   · rw[b9,decide_eq_true_iff] at q1
     rw[if_pos (yes (by have:zc (j*4)<0:=q1;omega))];rfl
   · rw[b9,decide_eq_true_iff] at q2
     rw[if_pos (yes (by omega))];rfl
   · rw[b9,decide_eq_true_iff] at q3
     rw[if_pos (yes (by have:1000<zc (j*4+1):=q3;omega))];rfl
   · rw[b9,decide_eq_true_iff] at q4
     rw[if_pos (yes (by have:zc (j*4+2)<0:=q4;omega))];rfl
   · rw[b9,decide_eq_true_iff] at q5
     rw[if_pos (yes (by omega))];rfl
   · rw[b9,decide_eq_true_iff] at q6
     rw[if_pos (yes (by have:1000<zc (j*4+3):=q6;omega))];rfl
   · rw[b9,decide_eq_false_iff_not] at q1 q2 q3 q4 q5 q6
     have q1:¬ zc (j*4)<0:=q1
     have q3:¬ 1000<zc (j*4+1):=q3
     have q4:¬ zc (j*4+2)<0:=q4
     have q6:¬ 1000<zc (j*4+3):=q6
     rw[if_neg (by rw[hs];simp;omega)]
     exact ⟨rfl,rfl⟩
 · obtain ⟨x,h1,rfl⟩:=aR (Q:=fun x=>x=(.exit 0,mO 3 (Int.ofNat lc)++[(36,.bool false)],cO dr lc zc lb zb::H)) (LI n dr lc zc lb zb H (Int.ofNat lc)) (aJ _) (ak _ _) (al _ _) (by
    refine Tr.ae (fun h0=>by simp (disch:=omega) only[nV,nW] at h0;omega) (fun h0=>Tr.ah rfl))
   exact h1
theorem N6 (a b:Int) (j:Nat) (hj:j≤lb) (hb:lb≤1000):exec (b5 n 23 125) (.block 4 (.loop (part Tryd.f23 [1,1,1,1,0,1,0,0,1,0,0,1,1,1,0,0]))) (zf (j:Int) (Int.ofNat 0)) (eB dr lc zc lb zb [Cw a b]::H) =
 some (cond (c5 (gL zb a b) j) (.ret,[(2,.int .i64 2)],eB dr lc zc lb zb [Cw a b]::H) (.normal,zf (j:Int) (j:Int)++[(113,.bool false)],eB dr lc zc lb zb [Cw a b]::H)):=by
 refine fF (n:=n) (f:=23) (nt:=125) (c:=part Tryd.f23 [1,1,1,1,0,1,0,0,1,0,0,1,1,1,0,0]) 4 (fun k=>zf (j:Int) (k:Int)) (fun _=>eB dr lc zc lb zb [Cw a b]::H) j (gL zb a b) (fun k=>([(2,.int .i64 2)],eB dr lc zc lb zb [Cw a b]::H)) (_,_) (by omega) (fun k hk=>?_) ?_
 · have ek:bf .i64 (k:Int) (Int.ofNat 1)=((k+1:Nat):Int):=ft (by omega)
   have ei:aM 0 (k:Int) 2=k*2:=by rw[cG];omega
   have hp:cr (cK (zb (k*2)) a) (cK (zb (k*2+1)) b)=gL zb a b k:=by
    rw[bV,aZ,aZ];unfold gL
    rw[Bool.eq_iff_iff];simp
    constructor<;>(rintro ⟨h1,h2⟩;exact ⟨h1.symm,h2.symm⟩)
   have T:=LK n dr lc zc lb zb H a b (j:Int) (k:Int)
   rw[ei,a6,ek,hp] at T
   refine aR T (aJ _) (ak _ _) (al _ _) ?_
   refine Tr.ae (fun h0=>?_) (fun h0=>by simp (disch:=omega) only[nV,nW] at h0;omega)
   refine Tr.ag (by simp (disch:=omega) only[nV,nW];omega) (Tr.ag (by simp (disch:=omega) only[nV,nW];omega) (Tr.ag (by simp (disch:=omega) only[nV,nW];omega) (Tr.ae (fun q=>Tr.ah ?_) (fun q=>Tr.ah ?_))))
   · rw[if_pos q];rfl
   · rw[if_neg (by rw[q];decide)];exact ⟨rfl,rfl⟩
 · obtain ⟨x,h1,rfl⟩:=aR (Q:=fun x=>x=(.exit 4,zf (j:Int) (j:Int)++[(113,.bool false)],eB dr lc zc lb zb [Cw a b]::H)) (LK n dr lc zc lb zb H a b (j:Int) (j:Int)) (aJ _) (ak _ _) (al _ _) (by
    refine Tr.ae (fun h0=>by simp (disch:=omega) only[nV,nW] at h0;omega) (fun h0=>Tr.ah rfl))
   exact h1
theorem N5   (hl:lc≤1000) (hb:lb≤1000):exec (b5 (n+1) 23 125) (.block 2 (.loop (part Tryd.f23 [1,1,1,1,0,1,0,0]))) (mO 5 (Int.ofNat 0)) (cO dr lc zc lb zb::H) =
 some (cond (c5 (gb lc zb) lb) (.ret,[(2,.int .i64 2)],eB dr lc zc lb zb [Cw (zb (fN (gb lc zb) lb 0*2)) (zb (fN (gb lc zb) lb 0*2+1))]::H) (.normal,mO 5 (Int.ofNat lb)++[(84,.bool false)],cO dr lc zc lb zb::H)):=by
 refine fF (n:=n+1) (f:=23) (nt:=125) (c:=part Tryd.f23 [1,1,1,1,0,1,0,0]) 2 (fun j=>mO 5 (j:Int)) (fun _=>cO dr lc zc lb zb::H) lb (gb lc zb) (fun j=>([(2,.int .i64 2)],eB dr lc zc lb zb [Cw (zb (j*2)) (zb (j*2+1))]::H)) (_,_) (by omega) (fun j hj=>?_) ?_
 · have ej : bf .i64 (j:Int) (Int.ofNat 1)=((j+1:Nat):Int):=ft (by omega)
   have ei:aM 0 (j:Int) 2=j*2:=by rw[cG];omega
   have T:=O6 n dr lc zc lb zb H (j:Int) (c5 (gL zb (zb (j*2)) (zb (j*2+1))) j)
   rw[ei,a6,ej] at T
   refine aR T (fi n 1) (br (ak _ _) Kw (fun x h=>cC h (N6 (n+1) dr lc zc lb zb H _ _ j (by omega) hb))) (al _ _) ?_
   refine Tr.ae (fun h0=>?_) (fun h0=>by simp (disch:=omega) only[nV,nW] at h0;omega)
   refine Tr.ag (by simp (disch:=omega) only[nV,nW];omega) (Tr.ag (by simp (disch:=omega) only[nV,nW];omega) (Tr.ag (by simp (disch:=omega) only[nV,nW];omega) (Tr.ag (by simp (disch:=omega) only[nV,nW];omega) ?_)))
   have yes:(zb (j*2)=zb (j*2+1)∨¬ (0≤zb (j*2)∧zb (j*2)<lc)∨¬ (0≤zb (j*2+1)∧zb (j*2+1)<lc))→gb lc zb j=true:=fun h=>by
    unfold gb
    rcases h with h | h | h
    · rw[decide_eq_true h];rfl
    · rw[decide_eq_false h];simp
    · rw[decide_eq_false h];simp
   refine Tr.ae (fun q1=>?_) (fun q1=>Tr.ah ?_)
   · rw[bC,decide_eq_true_iff] at q1
     have q1:0≤zb (j*2):=q1
     refine Tr.ae (fun q2=>Tr.ah ?_) (fun q2=>?_)
     · rw[aG,b9] at q2
       have q2:¬ zb (j*2)<(lc:Int):=by simpa using q2
       rw[if_pos (yes (.inr (.inl (by omega))))];rfl
     · rw[aG,b9] at q2
       have q2:zb (j*2)<(lc:Int):=by simpa using q2
       refine Tr.ag (by simp (disch:=omega) only[nV,nW];omega) (Tr.ae (fun q3=>?_) (fun q3=>Tr.ah ?_))
       · rw[bC,decide_eq_true_iff] at q3
         have q3:0≤zb (j*2+1):=q3
         refine Tr.ae (fun q4=>Tr.ah ?_) (fun q4=>?_)
         · rw[aG,b9] at q4
           have q4:¬ zb (j*2+1)<(lc:Int):=by simpa using q4
           rw[if_pos (yes (.inr (.inr (by omega))))];rfl
         · rw[aG,b9] at q4
           have q4:zb (j*2+1)<(lc:Int):=by simpa using q4
           refine Tr.ag (by simp (disch:=omega) only[nV,nW];omega) (Tr.ag (by simp (disch:=omega) only[nV,nW];omega) (Tr.ae (fun q5=>Tr.ah ?_) (fun q5=>?_)))
           · rw[aZ,beq_iff_eq] at q5
             rw[if_pos (yes (.inl q5))];rfl
           · rw[aZ,beq_eq_false_iff_ne] at q5
             refine Tr.aj ⟨rfl,rfl⟩ (Tr.ae (fun q6=>Tr.ah ?_) (fun q6=>Tr.ah ?_))
             · rw[if_pos (by unfold gb;rw[q6];simp)];rfl
             · rw[if_neg (by unfold gb;rw[q6,decide_eq_false q5,decide_eq_true ⟨q1,q2⟩,decide_eq_true ⟨q3,q4⟩];decide)]
               exact ⟨rfl,rfl⟩
       · rw[bC,decide_eq_false_iff_not] at q3
         have q3:¬ 0≤zb (j*2+1):=q3
         rw[if_pos (yes (.inr (.inr (by omega))))];rfl
   · rw[bC,decide_eq_false_iff_not] at q1
     have q1:¬ 0≤zb (j*2):=q1
     rw[if_pos (yes (.inr (.inl (by omega))))];rfl
 · obtain ⟨x,h1,rfl⟩:=aR (Q:=fun x=>x=(.exit 2,mO 5 (Int.ofNat lb)++[(84,.bool false)],cO dr lc zc lb zb::H)) (LJ n dr lc zc lb zb H (Int.ofNat lb)) (fi n 1) (cW (ak _ _) 4) (al _ _) (by
    refine Tr.ae (fun h0=>by simp (disch:=omega) only[nV,nW] at h0;omega) (fun h0=>Tr.ah rfl))
   exact h1
theorem MR (hl:lc≤1000) (hb:lb≤1000):cd (n+3) (.fn 23) [cM dr lc zc lb zb] H=some (.int .i64 (iU dr lc zc lb zb),H):=by
 by_cases k0:1≤lc∧lc≤10∧lb≤40
 · obtain ⟨k1,k2,k3⟩:=k0
   have ht:(l6 aV 64 (gB (sL lc (fun c=>jb zb c lb)) (fun A=>A=[cM dr lc zc lb zb]∧fz lc lb zb))).Ok (cd (n+2)):=wG (bx _) (fun A H hA=>by
    obtain ⟨rfl,hp⟩:=hA
    exact Q4 n dr lc zc lb zb H k2 k1 hb hp)
   refine bK (n:=n+2) Tryd.func23 rfl rfl rfl (Tp (n+2) dr lc zc lb zb H (c5 (iW zc) lc) (c5 (gb lc zb) lb) (sL lc (fun c=>jb zb c lb)) (Jq dr lc zc lb zb (fN (iW zc) lc 0)) (eB dr lc zc lb zb [Cw (zb (fN (gb lc zb) lb 0*2)) (zb (fN (gb lc zb) lb 0*2+1))]) (fun A=>A=[cM dr lc zc lb zb]∧fz lc lb zb)) (bS _ _ ht) (br (br (ak _ _) Ku (fun y h=>cC h (N4 (n+2) dr lc zc lb zb H hl))) Kv (fun y h=>cC h (N5 (n+1) dr lc zc lb zb H hl hb))) (al _ _) ?_
   have hG:iU dr lc zc lb zb=if dr<1∨100<dr∨c5 (iW zc) lc=true then 3 else if c5 (gb lc zb) lb=true then 2 else if sL lc (fun c=>jb zb c lb)=true then 16 else 0:=by unfold iU;rw[if_neg (by omega)]
   rw[hG]
   refine Tr.ae (fun q=>by exfalso;simp (disch:=omega) only[nV,nW] at q;omega) (fun _=>Tr.ae (fun q=>by exfalso;simp (disch:=omega) only[nV,nW] at q;omega) (fun _=>Tr.ae (fun q=>by exfalso;simp (disch:=omega) only[nV,nW] at q;omega) (fun _=>?_)))
   refine Tr.ae (fun q=>?_) (fun q=>Tr.ae (fun q'=>?_) (fun q'=>?_))
   · rw[b9,decide_eq_true_iff] at q
     rw[if_pos (.inl q)];exact Tr.ah ⟨rfl,rfl⟩
   · rw[b9,decide_eq_true_iff] at q'
     rw[if_pos (.inr (.inl q'))];exact Tr.ah ⟨rfl,rfl⟩
   · rw[b9,decide_eq_false_iff_not] at q q'
     have q:¬ dr<1:=q
     have q':¬ 100<dr:=q'
     refine Tr.aj ⟨rfl,rfl⟩ (Tr.ae (fun r=>?_) (fun r=>?_))
     · rw[if_pos (.inr (.inr r))];exact Tr.ah ⟨rfl,rfl⟩
     · rw[if_neg (by rintro (h | h | h);omega;omega;rw[r] at h;cases h)]
       refine Tr.aj ⟨rfl,rfl⟩ (Tr.ae (fun u=>?_) (fun u=>?_))
       · rw[if_pos u];exact Tr.ah ⟨rfl,rfl⟩
       · rw[if_neg (by rw[u];decide)]
         refine Tr.aj ⟨rfl,oJ u⟩ (Tr.ae (fun w=>?_) (fun w=>?_))
         · rw[if_pos w];exact Tr.ah ⟨rfl,rfl⟩
         · rw[if_neg (by rw[w];decide)];exact Tr.ah ⟨rfl,rfl⟩
 · refine bK (n:=n+2) Tryd.func23 rfl rfl rfl (Pk (n+2) dr lc zc lb zb H) (aJ _) (cW (ak _ _) 0) (al _ _) ?_
   have hG:iU dr lc zc lb zb=6:=by unfold iU;rw[if_pos (by omega)]
   rw[hG]
   refine Tr.ae (fun q=>Tr.ah ⟨rfl,rfl⟩) (fun q=>Tr.ae (fun q2=>Tr.ah ⟨rfl,rfl⟩) (fun q2=>Tr.ae (fun q3=>Tr.ah ⟨rfl,rfl⟩) (fun q3=>?_)))
   exfalso
   simp (disch:=omega) only[nV,nW] at q
   simp (disch:=omega) only[nV,nW] at q2
   simp (disch:=omega) only[nV,nW] at q3
   omega
end
end Go.Eng
end
section
namespace Go.Eng
open Go.Proofs
end Go.Eng
end
section
namespace Go.Eng
open Go.Proofs Go.Eng.Gall
section
variable {n:Nat} {b:Nat→Nat} {w:Nat→Int}
end
section
variable (n:Nat) (dr:Int) (lc:Nat) (zc:Nat→Int) (lb:Nat) (zb:Nat→Int) (W:Nat→Int) (b:Nat→Nat) (H:aa)
end
end Go.Eng
end
section
namespace Go.Eng
open Go.Proofs Go.Eng.Gall
section
variable (n:Nat) (dr:Int) (lc:Nat) (zc:Nat→Int) (lb:Nat) (zb:Nat→Int) (W:Nat→Int) (b:Nat→Nat) (H:aa)
end
end Go.Eng
end
section
namespace Go.Eng
open Go.Proofs Go.Eng.Gall
end Go.Eng
end
section
namespace Go.Eng
open Go.Proofs Go.Eng.Gall
section
variable (n:Nat) (dr:Int) (lc:Nat) (zc:Nat→Int) (lb:Nat) (zb:Nat→Int) (H:aa)
end
end Go.Eng
end
section
namespace Go.Eng
open Go.Proofs Go.Eng.Gall
section
variable (dr:Int) (lc:Nat) (zc:Nat→Int) (lb:Nat) (zb:Nat→Int)
variable (n:Nat) (H:aa)
end
end Go.Eng
end
