/- Bath: the law BathMoved, whole. -/
import Derived.Test.YtigmfpmabgekoaaGreatV12Bs0x3
import Derived.Test.YtigmfpmabgekoaaGreatV12Bak0x6
set_option linter.unusedVariables false
set_option linter.unusedSimpArgs false
set_option maxRecDepth 100000
section
namespace Go.Eng
open Go.Proofs
theorem BT {l:Nat} {z:Nat→Int} (h:bh l z=0) (hw:¬ cg l z=0):Dm l z=.tup [.nils,.int .i64 22]:=by
 unfold Dm;rw[if_neg hw,La h hw]
theorem Ol:∀ b,(0,b) ∈ bc (chain [part Tryz.f12 [1,1,0],part Tryz.f12 [1,1,1,0],part Tryz.f12 [1,1,1,1,0]])→b=.loop (part Tryz.f12 [1,1,1,1,0,1,0,0]):=jj (by kernel_rfl)
section
variable (n l v:Nat) (z x y w:Nat→Int) (u t k:Int) (r0 u0 t0 q0:Int)
theorem QF (H:aa) (hf:gr l z=false):∃ lv,exec (bp (n+14) 12 276) (chain [part Tryz.f12 [0],part Tryz.f12 [1,0]]) ([(0,aG 5 l z),(1,.int .u16 u0),(2,.int .u8 t0),(3,.int .u8 r0),(4,.int .u8 q0)]) (aC::H)=some (.ret,[(10,.bool true)],lv::H):=by
 obtain ⟨x,h1,lv,rfl⟩:=aD (Q:=fun x=>∃ lv,x=(.ret,[(10,.bool true)],lv::H)) (MG (n+14) l z u0 t0 r0 q0 false H) (cD _ _ (gb (I7 (by omega) (aO _)) (fun H=>by have:=Lf (n+9) l z H;rwa [hf] at this))) (af _ _) (ag _ _) (by
  repeat' first | (refine Tr.al (fun hc=>?_) (fun hc=>?_)<;>(try simp (disch:=omega) only[nV,nW] at hc)<;>(try (exfalso;omega))) | (refine Tr.a8 ?_ ?_;· ((try simp (disch:=omega) only[nV,nW]);try omega)) | (refine Tr.aw ?_ ?_;· first | exact trivial | rfl | exact ⟨rfl,rfl⟩ | exact ⟨trivial,rfl⟩ | exact ⟨rfl,by assumption⟩ | exact ⟨trivial,by assumption⟩ | exact ⟨rfl,rfl,rfl⟩ | (simp (disch:=omega) only[nV,nW];done) | ((try simp (disch:=omega) only[nV,nW]);omega)) | fail
  all_goals first
   | exact Tr.av ⟨_,rfl⟩
   | fail)
 exact ⟨lv,h1⟩
theorem QB (H:aa) (hf:gr l z=true):exec (bp (n+14) 12 276) (chain [part Tryz.f12 [0],part Tryz.f12 [1,0]]) ([(0,aG 5 l z),(1,.int .u16 u0),(2,.int .u8 t0),(3,.int .u8 r0),(4,.int .u8 q0)]) (aC::H)=some (.normal,[(0,aG 5 l z),(1,.int .u16 u0),(2,.int .u8 t0),(3,.int .u8 r0),(4,.int .u8 q0)]++[(45,.bool false)],aC::H):=by
 obtain ⟨q,q1,rfl⟩:=aD (Q:=fun q=>q=(.normal,[(0,aG 5 l z),(1,.int .u16 u0),(2,.int .u8 t0),(3,.int .u8 r0),(4,.int .u8 q0)]++[(45,.bool false)],aC::H)) (MG (n+14) l z u0 t0 r0 q0 true H) (cD _ _ (gb (I7 (by omega) (aO _)) (fun H=>by have:=Lf (n+9) l z H;rwa [hf] at this))) (af _ _) (ag _ _) (by
  exact wF)
 exact q1
theorem QC {R:Nat} (H:aa) (h:bh (l+1) z=0) (hr:iZ .i64 r0=(R:Int)) (hR:R≤255) (ht:0≤t0∧t0≤255) (hu:0≤u0∧u0≤65535) (hq:0≤q0∧q0≤255):exec (bp (n+14) 12 276) (chain [part Tryz.f12 [1,1,0],part Tryz.f12 [1,1,1,0],part Tryz.f12 [1,1,1,1,0]]) ([(0,aG 5 (l+1) z),(1,.int .u16 u0),(2,.int .u8 t0),(3,.int .u8 r0),(4,.int .u8 q0)]++[(45,.bool false)]) (aC::H)=some (.normal,lC (l+1) z r0 (1+t0 % 5) (q0 % 15) u0 (.slc 0 2 l 0 5 (l+1) none) (.slc 0 1 l 0 5 (l+1) none) (.slc 0 0 l 0 5 (l+1) none) (Int.ofNat (l+1))++[(59,.bool false)],⟨false,[gf l (rF (Cc z (l+1) R) (l+1)) (l+1),gf l (rF (Cd z (1+t0 % 5)) (l+1)) (l+1),gf l (rF (AU z u0) (l+1)) (l+1)]⟩::H):=by
 have eq:dq .i64 (iZ .i64 q0) (Int.ofNat 15)=q0 % 15:=(MY hq).1
 have eu:iZ .i64 u0=u0:=yb (by omega) (by omega)
 have et:aK .i64 (Int.ofNat 1) (dq .i64 (iZ .i64 t0) (Int.ofNat 5))=1+t0 % 5:=by
  rw[yb (by omega) (by omega),xO ht.1,bH]
  show IntKind.i64.wrap (1+t0 % 5)=_
  rw[cr (by omega) (by omega)]
 have hx:=PR (n+12) (l+1) R z r0 (1+t0 % 5) (q0 % 15) u0 H h hr hR (by omega) hu
 obtain ⟨q,q1,rfl⟩:=aD (Q:=fun q=>q=(.normal,lC (l+1) z r0 (1+t0 % 5) (q0 % 15) u0 (.slc 0 2 l 0 5 (l+1) none) (.slc 0 1 l 0 5 (l+1) none) (.slc 0 0 l 0 5 (l+1) none) (Int.ofNat (l+1))++[(59,.bool false)],⟨false,[gf l (rF (Cc z (l+1) R) (l+1)) (l+1),gf l (rF (Cd z (1+t0 % 5)) (l+1)) (l+1),gf l (rF (AU z u0) (l+1)) (l+1)]⟩::H)) (Ql (n+14) (l+1) l z (rF (AU z u0) (l+1)) (rF (Cd z (1+t0 % 5)) (l+1)) (rF (Cc z (l+1) R) (l+1)) u0 t0 r0 q0 (1+t0 % 5) (q0 % 15) u0 H) (cD _ _ (aO _)) (bz (af _ _) Ol (fun x h=>by rw[← Tr.ab h];simp only[gi.st,aP];rw[et,eq,eu];exact hx)) (ag _ _) (by
  exact wF)
 exact q1
theorem QD (h1:cg l z=0) (h2:cg l w=0) (m1:eh l z k=0) (m2:eh l w k=0) (hP:ec l z=ec l w) (hB:dM l z=dM l w) (hM:(mX l z k.toNat).1=(mX l w k.toNat).1):exec (bp (n+14) 12 276) (chain [part Tryz.f12 [1,1,1,1,1,0],part Tryz.f12 [1,1,1,1,1,1,0],part Tryz.f12 [1,1,1,1,1,1,1,0],part Tryz.f12 [1,1,1,1,1,1,1,1,0],part Tryz.f12 [1,1,1,1,1,1,1,1,1,0]]) (lC l z r0 t k u (.slc 0 2 v 0 5 l none) (.slc 0 1 v 0 5 l none) (.slc 0 0 v 0 5 l none) (Int.ofNat l)++[(59,.bool false)]) [⟨false,[gf v w l,gf v y l,gf v x l]⟩,⟨true,[]⟩]=some (.normal,[(0,aG 5 l z),(11,.int .i64 t),(12,.int .i64 k),(13,.int .i64 u),(14,aG 5 l x),(15,aG 5 l y),(19,bD (ec l z) (lr (dM l z)) true),(20,.int .i64 0),(23,.int .i64 (mX l z k.toNat).1),(166,.bool false)],[gW v,⟨true,[]⟩]):=by
 have h14:=Nat.le_trans (Lo h1) (show 14≤1000 by omega)
 obtain ⟨q,q1,rfl⟩:=aD (Q:=fun q=>q=(.normal,[(0,aG 5 l z),(11,.int .i64 t),(12,.int .i64 k),(13,.int .i64 u),(14,aG 5 l x),(15,aG 5 l y),(19,bD (ec l z) (lr (dM l z)) true),(20,.int .i64 0),(23,.int .i64 (mX l z k.toNat).1),(166,.bool false)],[gW v,⟨true,[]⟩])) (Qm (n+14) l v z x y w r0 t k u ec (fun l z=>lr (dM l z)) (fun l z=>cg l z=0) (fun l z q=>eh l z q=0) (fun l z q=>(mX l z q.toNat).1) (fun l z q=>dA (mX l z q.toNat).2)) (cD _ _ (mN (gb (qt (aO _) (fun l z H hq=>by have:=N9 (n+1) l z H;rw[BU hq] at this;exact this)) (fun H=>by rw[← hP,← hB];exact R9 (n+13) H (ec l z) (lr (dM l z)) (lr (dM l z)) true true h14 (fun j hj=>rfl))))) (af _ _) (ag _ _) (by
  simp only[c9]
  rw[← hM]
  exact wF)
 exact q1
theorem QE (h1:bh l z=0∧¬ cg l z=0) (h2:bh l w=0∧¬ cg l w=0) (m1:eh l z k=0) (m2:eh l w k=0) (hM:(mX l z k.toNat).1=(mX l w k.toNat).1):exec (bp (n+14) 12 276) (chain [part Tryz.f12 [1,1,1,1,1,0],part Tryz.f12 [1,1,1,1,1,1,0],part Tryz.f12 [1,1,1,1,1,1,1,0],part Tryz.f12 [1,1,1,1,1,1,1,1,0],part Tryz.f12 [1,1,1,1,1,1,1,1,1,0]]) (lC l z r0 t k u (.slc 0 2 v 0 5 l none) (.slc 0 1 v 0 5 l none) (.slc 0 0 v 0 5 l none) (Int.ofNat l)++[(59,.bool false)]) [⟨false,[gf v w l,gf v y l,gf v x l]⟩,⟨true,[]⟩]=some (.normal,[(0,aG 5 l z),(11,.int .i64 t),(12,.int .i64 k),(13,.int .i64 u),(14,aG 5 l x),(15,aG 5 l y),(19,.nils),(20,.int .i64 22),(23,.int .i64 (mX l z k.toNat).1),(166,.bool false)],[gW v,⟨true,[]⟩]):=by
 obtain ⟨q,q1,rfl⟩:=aD (Q:=fun q=>q=(.normal,[(0,aG 5 l z),(11,.int .i64 t),(12,.int .i64 k),(13,.int .i64 u),(14,aG 5 l x),(15,aG 5 l y),(19,.nils),(20,.int .i64 22),(23,.int .i64 (mX l z k.toNat).1),(166,.bool false)],[gW v,⟨true,[]⟩])) (Qn (n+14) l v z x y w r0 t k u (fun l z=>bh l z=0∧¬ cg l z=0) (fun l z q=>eh l z q=0) (fun l z q=>(mX l z q.toNat).1) (fun l z q=>dA (mX l z q.toNat).2)) (cD _ _ (mN (gb (qt (aO _) (fun l z H hq=>by have:=N9 (n+1) l z H;rw[BT hq.1 hq.2] at this;exact this)) (fun H=>Ow (n+13) H)))) (af _ _) (ag _ _) (by
  simp only[c9]
  rw[← hM]
  exact wF)
 exact q1
theorem M8 (m1:gr l y=true→eh l y k=0) (hM:gr l y=true→(mX l y k.toNat).1=t*(mX l z k.toNat).1) (ht:1≤t∧t≤5) (hn:0≤(mX l z k.toNat).1∧(mX l z k.toNat).1≤1400000) (hf:gr l x=true):exec (bp (n+14) 12 276) (chain [part Tryz.f12 [1,1,1,1,1,1,1,1,1,1,0],part Tryz.f12 [1,1,1,1,1,1,1,1,1,1,1,0]]) ([(0,aG 5 l z),(11,.int .i64 t),(12,.int .i64 k),(13,.int .i64 u),(14,aG 5 l x),(15,aG 5 l y),(19,bD (ec l z) (lr (dM l z)) true),(20,.int .i64 0),(23,.int .i64 (mX l z k.toNat).1),(166,.bool false)]) [gW v,⟨true,[]⟩]=some (.normal,[(0,aG 5 l z),(12,.int .i64 k),(13,.int .i64 u),(14,aG 5 l x),(19,bD (ec l z) (lr (dM l z)) true),(20,.int .i64 0),(23,.int .i64 (mX l z k.toNat).1),(187,.bool false)],[gW v,⟨true,[]⟩]):=by
 have em:oG .i64 t (mX l z k.toNat).1=t*(mX l z k.toNat).1:=by
  have h1:0≤t*(mX l z k.toNat).1:=Int.mul_nonneg (by omega) (by omega)
  have h2:t*(mX l z k.toNat).1≤5*(mX l z k.toNat).1:=Int.mul_le_mul_of_nonneg_right (by omega) (by omega)
  rw[iT,cr (by omega) (by omega)]
 obtain ⟨q,q1,rfl⟩:=aD (Q:=fun q=>q=(.normal,[(0,aG 5 l z),(12,.int .i64 k),(13,.int .i64 u),(14,aG 5 l x),(19,bD (ec l z) (lr (dM l z)) true),(20,.int .i64 0),(23,.int .i64 (mX l z k.toNat).1),(187,.bool false)],[gW v,⟨true,[]⟩])) (Jm (n+14) l z x y t k u 0 (mX l z k.toNat).1 (ec l z) (lr (dM l z)) gr (fun l z q=>eh l z q=0) (fun l z q=>(mX l z q.toNat).1) (fun l z q=>dA (mX l z q.toNat).2) (gW v)) (cD _ _ (mN (qt (I7 (by omega) (aO _)) (fun l z H hq=>Lf (n+9) l z H)))) (af _ _) (ag _ _) (by
  rw[em]
  cases hy:gr l y with
  | true =>
    have m3:=m1 hy
    rw[hM hy,hf]
    generalize t*(mX l z k.toNat).1=tM at *
    clear em
    exact wF
  | false =>
    rw[hf]
    clear em
    exact wF)
 exact q1
theorem Ng (m1:gr l y=true→eh l y k=0) (hM:gr l y=true→(mX l y k.toNat).1=t*(mX l z k.toNat).1) (ht:1≤t∧t≤5) (hn:0≤(mX l z k.toNat).1∧(mX l z k.toNat).1≤1400000) (hf:gr l x=false):∃ lv,exec (bp (n+14) 12 276) (chain [part Tryz.f12 [1,1,1,1,1,1,1,1,1,1,0],part Tryz.f12 [1,1,1,1,1,1,1,1,1,1,1,0]]) ([(0,aG 5 l z),(11,.int .i64 t),(12,.int .i64 k),(13,.int .i64 u),(14,aG 5 l x),(15,aG 5 l y),(19,bD (ec l z) (lr (dM l z)) true),(20,.int .i64 0),(23,.int .i64 (mX l z k.toNat).1),(166,.bool false)]) [gW v,⟨true,[]⟩]=some (.ret,[(10,.bool true)],[lv,⟨true,[]⟩]):=by
 have em:oG .i64 t (mX l z k.toNat).1=t*(mX l z k.toNat).1:=by
  have h1:0≤t*(mX l z k.toNat).1:=Int.mul_nonneg (by omega) (by omega)
  have h2:t*(mX l z k.toNat).1≤5*(mX l z k.toNat).1:=Int.mul_le_mul_of_nonneg_right (by omega) (by omega)
  rw[iT,cr (by omega) (by omega)]
 obtain ⟨q,q1,lv,rfl⟩:=aD (Q:=fun q=>∃ lv,q=(.ret,[(10,.bool true)],[lv,⟨true,[]⟩])) (Jm (n+14) l z x y t k u 0 (mX l z k.toNat).1 (ec l z) (lr (dM l z)) gr (fun l z q=>eh l z q=0) (fun l z q=>(mX l z q.toNat).1) (fun l z q=>dA (mX l z q.toNat).2) (gW v)) (cD _ _ (mN (qt (I7 (by omega) (aO _)) (fun l z H hq=>Lf (n+9) l z H)))) (af _ _) (ag _ _) (by
  rw[em]
  cases hy:gr l y with
  | true =>
    have m3:=m1 hy
    rw[hM hy,hf]
    generalize t*(mX l z k.toNat).1=tM at *
    clear em
    repeat' first | (refine Tr.al (fun hc=>?_) (fun hc=>?_)<;>(try simp (disch:=omega) only[nV,nW] at hc)<;>(try (exfalso;omega))) | (refine Tr.a8 ?_ ?_;· ((try simp (disch:=omega) only[nV,nW]);try omega)) | (refine Tr.aw ?_ ?_;· first | exact trivial | rfl | exact ⟨rfl,rfl⟩ | exact ⟨trivial,rfl⟩ | exact ⟨rfl,by assumption⟩ | exact ⟨trivial,by assumption⟩ | exact ⟨rfl,rfl,rfl⟩ | (simp (disch:=omega) only[nV,nW];done) | ((try simp (disch:=omega) only[nV,nW]);omega)) | fail
    all_goals first
     | exact Tr.av ⟨_,rfl⟩
     | fail
  | false =>
    rw[hf]
    clear em
    repeat' first | (refine Tr.al (fun hc=>?_) (fun hc=>?_)<;>(try simp (disch:=omega) only[nV,nW] at hc)<;>(try (exfalso;omega))) | (refine Tr.a8 ?_ ?_;· ((try simp (disch:=omega) only[nV,nW]);try omega)) | (refine Tr.aw ?_ ?_;· first | exact trivial | rfl | exact ⟨rfl,rfl⟩ | exact ⟨trivial,rfl⟩ | exact ⟨rfl,by assumption⟩ | exact ⟨trivial,by assumption⟩ | exact ⟨rfl,rfl,rfl⟩ | (simp (disch:=omega) only[nV,nW];done) | ((try simp (disch:=omega) only[nV,nW]);omega)) | fail
    all_goals first
     | exact Tr.av ⟨_,rfl⟩
     | fail)
 exact ⟨lv,q1⟩
theorem M9 (m1:gr l y=true→eh l y k=0) (hM:gr l y=true→(mX l y k.toNat).1=t*(mX l z k.toNat).1) (ht:1≤t∧t≤5) (hn:0≤(mX l z k.toNat).1∧(mX l z k.toNat).1≤1400000) (hf:gr l x=true):exec (bp (n+14) 12 276) (chain [part Tryz.f12 [1,1,1,1,1,1,1,1,1,1,0],part Tryz.f12 [1,1,1,1,1,1,1,1,1,1,1,0]]) ([(0,aG 5 l z),(11,.int .i64 t),(12,.int .i64 k),(13,.int .i64 u),(14,aG 5 l x),(15,aG 5 l y),(19,.nils),(20,.int .i64 22),(23,.int .i64 (mX l z k.toNat).1),(166,.bool false)]) [gW v,⟨true,[]⟩]=some (.normal,[(0,aG 5 l z),(12,.int .i64 k),(13,.int .i64 u),(14,aG 5 l x),(19,.nils),(20,.int .i64 22),(23,.int .i64 (mX l z k.toNat).1),(187,.bool false)],[gW v,⟨true,[]⟩]):=by
 have em:oG .i64 t (mX l z k.toNat).1=t*(mX l z k.toNat).1:=by
  have h1:0≤t*(mX l z k.toNat).1:=Int.mul_nonneg (by omega) (by omega)
  have h2:t*(mX l z k.toNat).1≤5*(mX l z k.toNat).1:=Int.mul_le_mul_of_nonneg_right (by omega) (by omega)
  rw[iT,cr (by omega) (by omega)]
 obtain ⟨q,q1,rfl⟩:=aD (Q:=fun q=>q=(.normal,[(0,aG 5 l z),(12,.int .i64 k),(13,.int .i64 u),(14,aG 5 l x),(19,.nils),(20,.int .i64 22),(23,.int .i64 (mX l z k.toNat).1),(187,.bool false)],[gW v,⟨true,[]⟩])) (Jn (n+14) l z x y t k u 22 (mX l z k.toNat).1  gr (fun l z q=>eh l z q=0) (fun l z q=>(mX l z q.toNat).1) (fun l z q=>dA (mX l z q.toNat).2) (gW v)) (cD _ _ (mN (qt (I7 (by omega) (aO _)) (fun l z H hq=>Lf (n+9) l z H)))) (af _ _) (ag _ _) (by
  rw[em]
  cases hy:gr l y with
  | true =>
    have m3:=m1 hy
    rw[hM hy,hf]
    generalize t*(mX l z k.toNat).1=tM at *
    clear em
    exact wF
  | false =>
    rw[hf]
    clear em
    exact wF)
 exact q1
theorem Nh (m1:gr l y=true→eh l y k=0) (hM:gr l y=true→(mX l y k.toNat).1=t*(mX l z k.toNat).1) (ht:1≤t∧t≤5) (hn:0≤(mX l z k.toNat).1∧(mX l z k.toNat).1≤1400000) (hf:gr l x=false):∃ lv,exec (bp (n+14) 12 276) (chain [part Tryz.f12 [1,1,1,1,1,1,1,1,1,1,0],part Tryz.f12 [1,1,1,1,1,1,1,1,1,1,1,0]]) ([(0,aG 5 l z),(11,.int .i64 t),(12,.int .i64 k),(13,.int .i64 u),(14,aG 5 l x),(15,aG 5 l y),(19,.nils),(20,.int .i64 22),(23,.int .i64 (mX l z k.toNat).1),(166,.bool false)]) [gW v,⟨true,[]⟩]=some (.ret,[(10,.bool true)],[lv,⟨true,[]⟩]):=by
 have em:oG .i64 t (mX l z k.toNat).1=t*(mX l z k.toNat).1:=by
  have h1:0≤t*(mX l z k.toNat).1:=Int.mul_nonneg (by omega) (by omega)
  have h2:t*(mX l z k.toNat).1≤5*(mX l z k.toNat).1:=Int.mul_le_mul_of_nonneg_right (by omega) (by omega)
  rw[iT,cr (by omega) (by omega)]
 obtain ⟨q,q1,lv,rfl⟩:=aD (Q:=fun q=>∃ lv,q=(.ret,[(10,.bool true)],[lv,⟨true,[]⟩])) (Jn (n+14) l z x y t k u 22 (mX l z k.toNat).1  gr (fun l z q=>eh l z q=0) (fun l z q=>(mX l z q.toNat).1) (fun l z q=>dA (mX l z q.toNat).2) (gW v)) (cD _ _ (mN (qt (I7 (by omega) (aO _)) (fun l z H hq=>Lf (n+9) l z H)))) (af _ _) (ag _ _) (by
  rw[em]
  cases hy:gr l y with
  | true =>
    have m3:=m1 hy
    rw[hM hy,hf]
    generalize t*(mX l z k.toNat).1=tM at *
    clear em
    repeat' first | (refine Tr.al (fun hc=>?_) (fun hc=>?_)<;>(try simp (disch:=omega) only[nV,nW] at hc)<;>(try (exfalso;omega))) | (refine Tr.a8 ?_ ?_;· ((try simp (disch:=omega) only[nV,nW]);try omega)) | (refine Tr.aw ?_ ?_;· first | exact trivial | rfl | exact ⟨rfl,rfl⟩ | exact ⟨trivial,rfl⟩ | exact ⟨rfl,by assumption⟩ | exact ⟨trivial,by assumption⟩ | exact ⟨rfl,rfl,rfl⟩ | (simp (disch:=omega) only[nV,nW];done) | ((try simp (disch:=omega) only[nV,nW]);omega)) | fail
    all_goals first
     | exact Tr.av ⟨_,rfl⟩
     | fail
  | false =>
    rw[hf]
    clear em
    repeat' first | (refine Tr.al (fun hc=>?_) (fun hc=>?_)<;>(try simp (disch:=omega) only[nV,nW] at hc)<;>(try (exfalso;omega))) | (refine Tr.a8 ?_ ?_;· ((try simp (disch:=omega) only[nV,nW]);try omega)) | (refine Tr.aw ?_ ?_;· first | exact trivial | rfl | exact ⟨rfl,rfl⟩ | exact ⟨trivial,rfl⟩ | exact ⟨rfl,by assumption⟩ | exact ⟨trivial,by assumption⟩ | exact ⟨rfl,rfl,rfl⟩ | (simp (disch:=omega) only[nV,nW];done) | ((try simp (disch:=omega) only[nV,nW]);omega)) | fail
    all_goals first
     | exact Tr.av ⟨_,rfl⟩
     | fail)
 exact ⟨lv,q1⟩
theorem Na (h2:cg l x=0) (m2:eh l x k=0) (hP:ec l z=ec l x) (hM:(mX l x k.toNat).1=(mX l z k.toNat).1):exec (bp (n+14) 12 276) (chain [part Tryz.f12 [1,1,1,1,1,1,1,1,1,1,1,1,0],part Tryz.f12 [1,1,1,1,1,1,1,1,1,1,1,1,1,0],part Tryz.f12 [1,1,1,1,1,1,1,1,1,1,1,1,1,1,0]]) ([(0,aG 5 l z),(12,.int .i64 k),(13,.int .i64 u),(14,aG 5 l x),(19,bD (ec l z) (lr (dM l z)) true),(20,.int .i64 0),(23,.int .i64 (mX l z k.toNat).1),(187,.bool false)]) [gW v,⟨true,[]⟩]=some (.normal,[(0,aG 5 l z),(13,.int .i64 u),(14,aG 5 l x),(19,bD (ec l z) (lr (dM l z)) true),(32,bD (ec l x) (lr (dM l x)) true),(219,.bool false)],[gW v,⟨true,[]⟩]):=by
 obtain ⟨q,q1,rfl⟩:=aD (Q:=fun q=>q=(.normal,[(0,aG 5 l z),(13,.int .i64 u),(14,aG 5 l x),(19,bD (ec l z) (lr (dM l z)) true),(32,bD (ec l x) (lr (dM l x)) true),(219,.bool false)],[gW v,⟨true,[]⟩])) (MH (n+14) l z x k u 0 0 (mX l z k.toNat).1 (ec l z) (lr (dM l z)) (ec l x) (lr (dM l x)) (fun l z q=>eh l z q=0) (fun l z q=>(mX l z q.toNat).1) (fun l z q=>dA (mX l z q.toNat).2) (gW v)) (cD _ _ (mN (gb (aO _) (fun H=>by have:=N9 (n+1) l x H;rw[BU h2] at this;exact this)))) (af _ _) (ag _ _) (by
  rw[hM,hP]
  generalize ec l x=a at *
  exact wF)
 exact q1
theorem Nb (h1:bh l x=0) (h2:¬ cg l x=0) (m2:eh l x k=0) (hM:(mX l x k.toNat).1=(mX l z k.toNat).1):exec (bp (n+14) 12 276) (chain [part Tryz.f12 [1,1,1,1,1,1,1,1,1,1,1,1,0],part Tryz.f12 [1,1,1,1,1,1,1,1,1,1,1,1,1,0],part Tryz.f12 [1,1,1,1,1,1,1,1,1,1,1,1,1,1,0]]) ([(0,aG 5 l z),(12,.int .i64 k),(13,.int .i64 u),(14,aG 5 l x),(19,.nils),(20,.int .i64 22),(23,.int .i64 (mX l z k.toNat).1),(187,.bool false)]) [gW v,⟨true,[]⟩]=some (.normal,[(0,aG 5 l z),(13,.int .i64 u),(14,aG 5 l x),(19,.nils),(32,.nils),(219,.bool false)],[gW v,⟨true,[]⟩]):=by
 obtain ⟨q,q1,rfl⟩:=aD (Q:=fun q=>q=(.normal,[(0,aG 5 l z),(13,.int .i64 u),(14,aG 5 l x),(19,.nils),(32,.nils),(219,.bool false)],[gW v,⟨true,[]⟩])) (MI (n+14) l z x k u 22 22 (mX l z k.toNat).1 (fun l z q=>eh l z q=0) (fun l z q=>(mX l z q.toNat).1) (fun l z q=>dA (mX l z q.toNat).2) (gW v)) (cD _ _ (mN (gb (aO _) (fun H=>by have:=N9 (n+1) l x H;rw[BT h1 h2] at this;exact this)))) (af _ _) (ag _ _) (by
  rw[hM]
  exact wF)
 exact q1
end
end Go.Eng
end
section
namespace Go.Eng
open Go.Proofs
theorem Ls:∀ b,(2,b) ∈ bc (part Tryz.f12 [1,1,1,1,1,1,1,1,1,1,1,1,1,1,1,0])→b=.loop (part Tryz.f12 [1,1,1,1,1,1,1,1,1,1,1,1,1,1,1,0,1,0,0]):=jj (by kernel_rfl)
theorem Lt:∀ b,(4,b) ∈ bc (chain [part Tryz.f12 [1,1,1,1,1,1,1,1,1,1,1,1,1,1,1,1,0],part Tryz.f12 [1,1,1,1,1,1,1,1,1,1,1,1,1,1,1,1,1]])→b=.loop (part Tryz.f12 [1,1,1,1,1,1,1,1,1,1,1,1,1,1,1,1,0,1,0,0]):=jj (by kernel_rfl)
theorem Gy {g:Nat→Int} {B:Int}:∀ N,(∀ i,i<N→0≤g i∧g i≤B)→0≤ku g N∧ku g N≤(N:Int)*B
 | 0,_=>by
   show (0:Int)≤0∧(0:Int)≤((0:Nat):Int)*B
   simp
 | N+1,h=>by
   obtain ⟨i1,i2⟩:=Gy N (fun i hi=>h i (by omega))
   have:=h N (by omega)
   have e:ku g (N+1)=ku g N+g N:=rfl
   rw[e,show ((N+1:Nat):Int)*B=(N:Int)*B+B by rw[Int.natCast_add,Int.add_mul];simp]
   omega
theorem Ms {l K:Nat} {z:Nat→Int} (h:bh l z=0) (hK:K≤15):0≤(mX l z K).1∧(mX l z K).1≤1400000:=by
 have hm:=(rG (K:=K) h hK).1
 obtain ⟨hl,hz⟩:=bM h
 rw[← hm.wo]
 unfold uC
 have:=Gy (g:=fun i=>if jr (cq z) (bE z) (mX l z K).2 i=true then gm z i else 0) (B:=100000) l (fun i hi=>by
  have:=hz i hi
  unfold gm
  split<;>omega)
 omega
section
variable (n l v:Nat) (z x:Nat→Int) (u:Int)
theorem Nc (H:aa) (h1:cg l z=0) (hu:0≤u∧u≤65535) (hP:ec l z=ec l x) (hA:∀ j,j<ec l z→lr (dM l x) j=lr (dM l z) j+u) (hr:∀ j,j<ec l z→-10000≤lr (dM l z) j∧lr (dM l z) j≤10000) :
 exec (bp (n+14) 12 276) (part Tryz.f12 [1,1,1,1,1,1,1,1,1,1,1,1,1,1,1,0]) ([(0,aG 5 l z),(13,.int .i64 u),(14,aG 5 l x),(19,bD (ec l z) (lr (dM l z)) true),(32,bD (ec l x) (lr (dM l x)) true),(219,.bool false)]) (gW v::H)=some (.normal,eW l z x u (bD (ec l z) (lr (dM l z)) true) (bD (ec l z) (lr (dM l x)) true) (Int.ofNat (ec l z))++[(223,.bool false)],gW v::H):=by
 have hx:=PS (n+14) l (ec l z) v z x (lr (dM l z)) (lr (dM l x)) u H (Nat.le_trans (Lo h1) (by omega)) hA hr hu
 rw[← hP]
 obtain ⟨q,q1,rfl⟩:=aD (Q:=fun q=>q=(.normal,eW l z x u (bD (ec l z) (lr (dM l z)) true) (bD (ec l z) (lr (dM l x)) true) (Int.ofNat (ec l z))++[(223,.bool false)],gW v::H)) (MJ (n+14) l (ec l z) (ec l z) z x (lr (dM l z)) (lr (dM l x)) u (gW v) H) (aI _) (bz (af _ _) Ls (fun x h=>by rw[← Tr.ab h];simp only[gi.st,aP];exact hx)) (ag _ _) (by
  exact wF)
 exact q1
theorem Nd (H:aa) :
 exec (bp (n+14) 12 276) (part Tryz.f12 [1,1,1,1,1,1,1,1,1,1,1,1,1,1,1,0]) ([(0,aG 5 l z),(13,.int .i64 u),(14,aG 5 l x),(19,.nils),(32,.nils),(219,.bool false)]) (gW v::H)=some (.normal,eW l z x u .nils .nils (Int.ofNat 0)++[(223,.bool false)],gW v::H):=by
 have hx:=PT (n+14) l z x u (gW v) H
 obtain ⟨q,q1,rfl⟩:=aD (Q:=fun q=>q=(.normal,eW l z x u .nils .nils (Int.ofNat 0)++[(223,.bool false)],gW v::H)) (ML (n+14) l z x u (gW v) H) (aI _) (bz (af _ _) Ls (fun x h=>by rw[← Tr.ab h];simp only[gi.st,aP];exact hx)) (ag _ _) (by
  exact wF)
 exact q1
theorem Nf (B B2:AV) (p:Nat) (H:aa) (hz:bh l z=0) (hx:bh l x=0) (hb:∀ i,i<l→cq x i=cq z i+u∧bE x i=bE z i+u) (hu:0≤u∧u≤65535) (hB:(∃ A A2,B=bD p A true∧B2=bD p A2 true)∨(B=.nils∧B2=.nils∧p=0)) :
 exec (bp (n+14) 12 276) (chain [part Tryz.f12 [1,1,1,1,1,1,1,1,1,1,1,1,1,1,1,1,0],part Tryz.f12 [1,1,1,1,1,1,1,1,1,1,1,1,1,1,1,1,1]]) (eW l z x u B B2 (Int.ofNat p)++[(223,.bool false)]) (gW v::H)=some (.ret,[(10,.bool true)],gW v::H):=by
 have hx:=PU (n+2) l v z x u H hz hx hb hu
 rcases hB with ⟨A,A2,rfl,rfl⟩ | ⟨rfl,rfl,rfl⟩
 · obtain ⟨q,q1,rfl⟩:=aD (Q:=fun q=>q=(.ret,[(10,.bool true)],gW v::H)) (MM (n+14) l v p p z x A A2 u H) (cD _ _ (I7 (by omega) (aO _))) (bz (af _ _) Lt (fun x h=>by rw[← Tr.ab h];simp only[gi.st,aP];exact hx)) (ag _ _) (by
    exact wF)
   exact q1
 · obtain ⟨q,q1,rfl⟩:=aD (Q:=fun q=>q=(.ret,[(10,.bool true)],gW v::H)) (MN (n+14) l v z x u H) (cD _ _ (I7 (by omega) (aO _))) (bz (af _ _) Lt (fun x h=>by rw[← Tr.ab h];simp only[gi.st,aP];exact hx)) (ag _ _) (by
    exact wF)
   exact q1
end
theorem R5 (n l:Nat) (z:Nat→Int) (u0 t0 r0 q0:Int) (hu:0≤u0∧u0≤65535) (ht:0≤t0∧t0≤255) (hr:0≤r0∧r0≤255) (hq:0≤q0∧q0≤255) :
 cd (n+15) (.fn 12) [aG 5 l z,.int .u16 u0,.int .u8 t0,.int .u8 r0,.int .u8 q0] [⟨true,[]⟩]=some (.bool true,[⟨true,[]⟩]):=by
 suffices hs:∃ lv,exec (bp (n+14) 12 276) (chain [part Tryz.f12 [0],part Tryz.f12 [1,0],part Tryz.f12 [1,1,0],part Tryz.f12 [1,1,1,0],part Tryz.f12 [1,1,1,1,0],part Tryz.f12 [1,1,1,1,1,0],part Tryz.f12 [1,1,1,1,1,1,0],part Tryz.f12 [1,1,1,1,1,1,1,0],part Tryz.f12 [1,1,1,1,1,1,1,1,0],part Tryz.f12 [1,1,1,1,1,1,1,1,1,0],part Tryz.f12 [1,1,1,1,1,1,1,1,1,1,0],part Tryz.f12 [1,1,1,1,1,1,1,1,1,1,1,0],part Tryz.f12 [1,1,1,1,1,1,1,1,1,1,1,1,0],part Tryz.f12 [1,1,1,1,1,1,1,1,1,1,1,1,1,0],part Tryz.f12 [1,1,1,1,1,1,1,1,1,1,1,1,1,1,0],part Tryz.f12 [1,1,1,1,1,1,1,1,1,1,1,1,1,1,1,0],part Tryz.f12 [1,1,1,1,1,1,1,1,1,1,1,1,1,1,1,1,0],part Tryz.f12 [1,1,1,1,1,1,1,1,1,1,1,1,1,1,1,1,1]]) ([(0,aG 5 l z),(1,.int .u16 u0),(2,.int .u8 t0),(3,.int .u8 r0),(4,.int .u8 q0)]) [aC,⟨true,[]⟩]=some (.ret,[(10,.bool true)],[lv,⟨true,[]⟩]) by
  obtain ⟨lv,hs⟩:=hs
  exact Ha (n:=n+14) Tryz.func12 OI rfl rfl (by rw[Qe];exact hs) (MZ _ lv)
 cases hf:gr l z with
 | false =>
   obtain ⟨lv,hs⟩:=QF n l z r0 u0 t0 q0 [⟨true,[]⟩] hf
   exact ⟨lv,r9 [part Tryz.f12 [0],part Tryz.f12 [1,0]] (by simp) hs⟩
 | true =>
   have h:bh l z=0:=of_decide_eq_true hf
   have hl:=(bM h).1
   obtain ⟨l,rfl⟩:∃ l',l=l'+1:=⟨l-1,by omega⟩
   have hR:iZ .i64 r0=((r0.toNat:Nat):Int):=by rw[yb (by omega) (by omega)];omega
   have sa:=QB n (l+1) z r0 u0 t0 q0 [⟨true,[]⟩] hf
   have sb:=QC n l z r0 u0 t0 q0 [⟨true,[]⟩] h hR (by omega) ht hu hq
   obtain ⟨w1,w2,w3,w4⟩:=IQ (y:=rF (Cc z (l+1) r0.toNat) (l+1)) (r:=r0.toNat) h (fun i hi j hj=>wm _ hi hj)
   have hy:=fun hcy:bh (l+1) (rF (Cd z (1+t0 % 5)) (l+1))=0=>GI (t:=1+t0 % 5) h hcy (by omega) (fun i hi j hj=>(wm _ hi (by omega)).trans (if_neg (by omega))) (fun i hi=>(wm _ hi (by omega)).trans (if_pos rfl)) (q0 % 15).toNat (by omega)
   have hx:=fun hcx:bh (l+1) (rF (AU z u0) (l+1))=0=>FG (u:=u0) h hcx (fun i hi=>by
    have:=wm (AU z u0) (k:=0) hi (by omega)
    rw[Nat.add_zero] at this
    exact this.trans (if_pos (by omega))) (fun i hi=>(wm _ hi (by omega)).trans (if_pos (by omega))) (fun i hi j hj hj2=>(wm _ hi hj).trans (if_neg (by omega)))
   have w5:=w4 (q0 % 15).toNat (by omega)
   have hn:=Ms (K:=(q0 % 15).toNat) h (by omega)
   have m0:=tI (q:=q0 % 15) h (by omega) (by omega)
   have mw:=tI (q:=q0 % 15) w1 (by omega) (by omega)
   generalize rF (Cc z (l+1) r0.toNat) (l+1)=w at *
   generalize rF (Cd z (1+t0 % 5)) (l+1)=y at *
   generalize rF (AU z u0) (l+1)=x at *
   have my:gr (l+1) y=true→eh (l+1) y (q0 % 15)=0:=fun hfy=>tI (of_decide_eq_true hfy) (by omega) (by omega)
   have hy2:gr (l+1) y=true→(mX (l+1) y (q0 % 15).toNat).1=(1+t0 % 5)*(mX (l+1) z (q0 % 15).toNat).1:=fun hfy=>hy (of_decide_eq_true hfy)
   by_cases hw:cg (l+1) z=0
   · obtain ⟨p1,p2⟩:=w3 hw
     have sc:=QD n (l+1) l z x y w u0 (1+t0 % 5) (q0 % 15) r0 hw (w2.1 hw) m0 mw p1 p2 w5
     cases hfx:gr (l+1) x with
     | false =>
       obtain ⟨lv,sx⟩:=Ng n (l+1) l z x y u0 (1+t0 % 5) (q0 % 15) my hy2 (by omega) hn hfx
       exact ⟨lv,(eT [part Tryz.f12 [0],part Tryz.f12 [1,0]] (by simp) sa).trans ((eT [part Tryz.f12 [1,1,0],part Tryz.f12 [1,1,1,0],part Tryz.f12 [1,1,1,1,0]] (by simp) sb).trans ((eT [part Tryz.f12 [1,1,1,1,1,0],part Tryz.f12 [1,1,1,1,1,1,0],part Tryz.f12 [1,1,1,1,1,1,1,0],part Tryz.f12 [1,1,1,1,1,1,1,1,0],part Tryz.f12 [1,1,1,1,1,1,1,1,1,0]] (by simp) sc).trans (r9 [part Tryz.f12 [1,1,1,1,1,1,1,1,1,1,0],part Tryz.f12 [1,1,1,1,1,1,1,1,1,1,1,0]] (by simp) sx)))⟩
     | true =>
       have hcx:bh (l+1) x=0:=of_decide_eq_true hfx
       obtain ⟨x1,x2,x3,x4⟩:=hx hcx
       obtain ⟨x5,x6⟩:=x3 hw
       have mx:=tI (q:=q0 % 15) hcx (by omega) (by omega)
       have se:=M8 n (l+1) l z x y u0 (1+t0 % 5) (q0 % 15) my hy2 (by omega) hn hfx
       have sf:=Na n (l+1) l z x u0 (q0 % 15) (x2.1 hw) mx x5 (x4 _ (by omega))
       have hlen1:(dM (l+1) z).length=ec (l+1) z:=IW _ _
       have hlen2:(dM (l+1) x).length=ec (l+1) x:=IW _ _
       have sg:=Nc n (l+1) l z x u0 [⟨true,[]⟩] hw hu x5 (fun j hj=>by rw[EP _ j (by omega),EP _ j (by omega)];exact x6 j hj) (fun j hj=>by rw[EP _ j (by omega)];exact I4 (vz hw (fun _ _=>rfl)) j hj)
       have sh:=Nf n (l+1) l z x u0 _ _ (ec (l+1) z) [⟨true,[]⟩] h hcx x1 hu (.inl ⟨lr (dM (l+1) z),lr (dM (l+1) x),rfl,rfl⟩)
       exact ⟨_,(eT [part Tryz.f12 [0],part Tryz.f12 [1,0]] (by simp) sa).trans ((eT [part Tryz.f12 [1,1,0],part Tryz.f12 [1,1,1,0],part Tryz.f12 [1,1,1,1,0]] (by simp) sb).trans ((eT [part Tryz.f12 [1,1,1,1,1,0],part Tryz.f12 [1,1,1,1,1,1,0],part Tryz.f12 [1,1,1,1,1,1,1,0],part Tryz.f12 [1,1,1,1,1,1,1,1,0],part Tryz.f12 [1,1,1,1,1,1,1,1,1,0]] (by simp) sc).trans ((eT [part Tryz.f12 [1,1,1,1,1,1,1,1,1,1,0],part Tryz.f12 [1,1,1,1,1,1,1,1,1,1,1,0]] (by simp) se).trans ((eT [part Tryz.f12 [1,1,1,1,1,1,1,1,1,1,1,1,0],part Tryz.f12 [1,1,1,1,1,1,1,1,1,1,1,1,1,0],part Tryz.f12 [1,1,1,1,1,1,1,1,1,1,1,1,1,1,0]] (by simp) sf).trans ((wS sg).trans sh)))))⟩
   · have sc:=QE n (l+1) l z x y w u0 (1+t0 % 5) (q0 % 15) r0 ⟨h,hw⟩ ⟨w1,fun h2=>hw (w2.2 h2)⟩ m0 mw w5
     cases hfx:gr (l+1) x with
     | false =>
       obtain ⟨lv,sx⟩:=Nh n (l+1) l z x y u0 (1+t0 % 5) (q0 % 15) my hy2 (by omega) hn hfx
       exact ⟨lv,(eT [part Tryz.f12 [0],part Tryz.f12 [1,0]] (by simp) sa).trans ((eT [part Tryz.f12 [1,1,0],part Tryz.f12 [1,1,1,0],part Tryz.f12 [1,1,1,1,0]] (by simp) sb).trans ((eT [part Tryz.f12 [1,1,1,1,1,0],part Tryz.f12 [1,1,1,1,1,1,0],part Tryz.f12 [1,1,1,1,1,1,1,0],part Tryz.f12 [1,1,1,1,1,1,1,1,0],part Tryz.f12 [1,1,1,1,1,1,1,1,1,0]] (by simp) sc).trans (r9 [part Tryz.f12 [1,1,1,1,1,1,1,1,1,1,0],part Tryz.f12 [1,1,1,1,1,1,1,1,1,1,1,0]] (by simp) sx)))⟩
     | true =>
       have hcx:bh (l+1) x=0:=of_decide_eq_true hfx
       obtain ⟨x1,x2,x3,x4⟩:=hx hcx
       have mx:=tI (q:=q0 % 15) hcx (by omega) (by omega)
       have se:=M9 n (l+1) l z x y u0 (1+t0 % 5) (q0 % 15) my hy2 (by omega) hn hfx
       have sf:=Nb n (l+1) l z x u0 (q0 % 15) hcx (fun h2=>hw (x2.2 h2)) mx (x4 _ (by omega))
       have sg:=Nd n (l+1) l z x u0 [⟨true,[]⟩]
       have sh:=Nf n (l+1) l z x u0 .nils .nils 0 [⟨true,[]⟩] h hcx x1 hu (.inr ⟨rfl,rfl,rfl⟩)
       exact ⟨_,(eT [part Tryz.f12 [0],part Tryz.f12 [1,0]] (by simp) sa).trans ((eT [part Tryz.f12 [1,1,0],part Tryz.f12 [1,1,1,0],part Tryz.f12 [1,1,1,1,0]] (by simp) sb).trans ((eT [part Tryz.f12 [1,1,1,1,1,0],part Tryz.f12 [1,1,1,1,1,1,0],part Tryz.f12 [1,1,1,1,1,1,1,0],part Tryz.f12 [1,1,1,1,1,1,1,1,0],part Tryz.f12 [1,1,1,1,1,1,1,1,1,0]] (by simp) sc).trans ((eT [part Tryz.f12 [1,1,1,1,1,1,1,1,1,1,0],part Tryz.f12 [1,1,1,1,1,1,1,1,1,1,1,0]] (by simp) se).trans ((eT [part Tryz.f12 [1,1,1,1,1,1,1,1,1,1,1,1,0],part Tryz.f12 [1,1,1,1,1,1,1,1,1,1,1,1,1,0],part Tryz.f12 [1,1,1,1,1,1,1,1,1,1,1,1,1,1,0]] (by simp) sf).trans ((wS sg).trans sh)))))⟩
end Go.Eng
end
section
namespace Go.Proofs.YtigmfpmabgekoaaGreat.Known
open Go.Eng Go.Proofs
noncomputable def E1:jK:=⟨51,[],.slcT none (.I .i64 [100,110,20,60,5,90,90,10,30,3,150,150,0,40,4,130,140,30,35,6]) 5 4 true⟩
theorem Ua:bV Tryz.prog E1:=dX named mixed CU jA [50] KtB.kt 100000 40 (H':=[⟨true,[]⟩]) (by kernel_rfl) (by kernel_rfl)
noncomputable def NH:List jK:=E1::NG
theorem CV:∀ e ∈ NH,bV Tryz.prog e:=eH Ua CU
noncomputable def E2:jK:=⟨18,[.slcT none (.I .i64 [100,110,20,60,5,90,90,10,30,3,150,150,0,40,4,130,130,25,50,6]) 5 4 true,.int .i64 80],.tup [.slcT none (.I .i64 [0,1,3]) 1 3 false,.int .i64 0]⟩
theorem Ub:bV Tryz.prog E2:=dX named mixed CV jA [68] KtB.kt 100000 40 (H':=[⟨true,[]⟩]) (by kernel_rfl) (by kernel_rfl)
noncomputable def NJ:List jK:=E2::NH
theorem CW:∀ e ∈ NJ,bV Tryz.prog e:=eH Ub CV
noncomputable def E3:jK:=⟨23,[.slcT none (.I .i64 [100,110,20,60,5,90,90,10,30,3,150,150,0,40,4,130,130,25,50,6]) 5 4 true],.tup [.slcT none (.I .i64 [80,150]) 1 2 true,.int .i64 0]⟩
theorem Uc:bV Tryz.prog E3:=dX named mixed CW jA [68] KtB.kt 100000 40 (H':=[⟨true,[]⟩]) (by kernel_rfl) (by kernel_rfl)
noncomputable def NK:List jK:=E3::NJ
theorem CX:∀ e ∈ NK,bV Tryz.prog e:=eH Uc CW
end Go.Proofs.YtigmfpmabgekoaaGreat.Known
end
section
namespace Go.Proofs.YtigmfpmabgekoaaGreat.Known
open Go.Eng Go.Proofs
noncomputable def E4:jK:=⟨32,[.slcT none (.I .i64 [100,110,20,60,5,90,90,10,30,3,150,150,0,40,4,130,130,25,50,6]) 5 4 true],.tup [.slcT none (.I .i64 [0,2]) 1 2 false,.int .i64 0]⟩
theorem Ud:bV Tryz.prog E4:=dX named mixed CX jA [68] KtB.kt 100000 40 (H':=[⟨true,[]⟩]) (by kernel_rfl) (by kernel_rfl)
noncomputable def NL:List jK:=E4::NK
theorem CY:∀ e ∈ NL,bV Tryz.prog e:=eH Ud CX
noncomputable def E5:jK:=⟨25,[.slcT none (.I .i64 [100,110,20,60,5,90,90,10,30,3,150,150,0,40,4,130,130,25,50,6]) 5 4 true],.tup [.slcT none (.I .i64 [2]) 1 1 false,.int .i64 0]⟩
theorem Ue:bV Tryz.prog E5:=dX named mixed CY jA [68] KtB.kt 100000 40 (H':=[⟨true,[]⟩]) (by kernel_rfl) (by kernel_rfl)
noncomputable def NM:List jK:=E5::NL
theorem CZ:∀ e ∈ NM,bV Tryz.prog e:=eH Ue CY
noncomputable def E6:jK:=⟨36,[.slcT none (.I .i64 [100,110,20,60,5,90,90,10,30,3,150,150,0,40,4,130,130,25,50,6]) 5 4 true,.int .i64 1],.tup [.int .i64 14,.slcT none (.I .i64 [80]) 1 1 false,.int .i64 0]⟩
theorem Uf:bV Tryz.prog E6:=dX named mixed CZ jA [68] KtB.kt 100000 40 (H':=[⟨true,[]⟩]) (by kernel_rfl) (by kernel_rfl)
noncomputable def NN:List jK:=E6::NM
theorem C0:∀ e ∈ NN,bV Tryz.prog e:=eH Uf CZ
end Go.Proofs.YtigmfpmabgekoaaGreat.Known
end
section
namespace Go.Proofs.YtigmfpmabgekoaaGreat.Known
open Go.Eng Go.Proofs
noncomputable def E7:jK:=⟨43,[.slcT none (.I .i64 [100,110,20,60,5,90,90,10,30,3,150,150,0,40,4,130,130,25,50,6]) 5 4 true,.int .i64 1],.tup [.int .i64 4,.slcT none (.I .i64 [1,3,4,0]) 1 4 true,.int .i64 0]⟩
theorem Ug:bV Tryz.prog E7:=dX named mixed C0 jA [68] KtB.kt 100000 40 (H':=[⟨true,[]⟩]) (by kernel_rfl) (by kernel_rfl)
noncomputable def NO:List jK:=E7::NN
theorem C3:∀ e ∈ NO,bV Tryz.prog e:=eH Ug C0
noncomputable def E8:jK:=⟨45,[.slcT none (.I .i64 [100,110,20,60,5,90,90,10,30,3,150,150,0,40,4,130,130,25,50,6]) 5 4 true,.int .i64 1,.int .i64 4,.slcT none (.I .i64 [1,3,4,0]) 1 4 true],.tup [.int .i64 14,.int .i64 0]⟩
theorem Uh:bV Tryz.prog E8:=dX named mixed C3 jA [68] KtB.kt 100000 40 (H':=[⟨true,[]⟩]) (by kernel_rfl) (by kernel_rfl)
noncomputable def NP:List jK:=E8::NO
theorem C4:∀ e ∈ NP,bV Tryz.prog e:=eH Uh C3
noncomputable def E9:jK:=⟨34,[.slcT none (.I .i64 [100,110,20,60,5,90,90,10,30,3,150,150,0,40,4,130,130,25,50,6]) 5 4 true,.slcT none (.I .i64 [0,2]) 1 2 false],.int .i64 0⟩
theorem Ui:bV Tryz.prog E9:=dX named mixed C4 jA [68] KtB.kt 100000 40 (H':=[⟨true,[]⟩]) (by kernel_rfl) (by kernel_rfl)
noncomputable def NQ:List jK:=E9::NP
theorem C5:∀ e ∈ NQ,bV Tryz.prog e:=eH Ui C4
end Go.Proofs.YtigmfpmabgekoaaGreat.Known
end
section
namespace Go.Proofs.YtigmfpmabgekoaaGreat.Known
open Go.Eng Go.Proofs
noncomputable def Rv:jK:=⟨39,[.slcT none (.I .i64 [100,110,20,60,5,90,90,10,30,3,150,150,0,40,4,130,130,25,50,6]) 5 4 true,.slcT none (.I .i64 [80]) 1 1 false],.int .i64 14⟩
theorem Qf:bV Tryz.prog Rv:=dX named mixed C5 jA [68] KtB.kt 100000 40 (H':=[⟨true,[]⟩]) (by kernel_rfl) (by kernel_rfl)
noncomputable def Ju:List jK:=Rv::NQ
theorem Ao:∀ e ∈ Ju,bV Tryz.prog e:=eH Qf C5
noncomputable def Rw:jK:=⟨36,[.slcT none (.I .i64 [100,110,20,60,5,90,90,10,30,3,150,150,0,40,4,130,130,25,50,6]) 5 4 true,.int .i64 0],.tup [.int .i64 0,.nils,.int .i64 0]⟩
theorem Qg:bV Tryz.prog Rw:=dX named mixed Ao jA [68] KtB.kt 100000 40 (H':=[⟨true,[]⟩]) (by kernel_rfl) (by kernel_rfl)
noncomputable def Jv:List jK:=Rw::Ju
theorem Ap:∀ e ∈ Jv,bV Tryz.prog e:=eH Qg Ao
noncomputable def Rx:jK:=⟨36,[.slcT none (.I .i64 [100,110,20,60,5,90,90,10,30,3,150,150,0,40,4,130,130,25,50,6]) 5 4 true,.int .i64 2],.tup [.int .i64 18,.slcT none (.I .i64 [80,110]) 1 2 false,.int .i64 0]⟩
theorem Qh:bV Tryz.prog Rx:=dX named mixed Ap jA [68] KtB.kt 100000 40 (H':=[⟨true,[]⟩]) (by kernel_rfl) (by kernel_rfl)
noncomputable def Jw:List jK:=Rx::Jv
theorem Aq:∀ e ∈ Jw,bV Tryz.prog e:=eH Qh Ap
end Go.Proofs.YtigmfpmabgekoaaGreat.Known
end
section
namespace Go.Proofs.YtigmfpmabgekoaaGreat.Known
open Go.Eng Go.Proofs
noncomputable def Ry:jK:=⟨18,[.slcT none (.I .i64 [100,110,20,60,5,90,90,10,30,3,150,150,0,40,4,130,130,25,50,6]) 5 4 true,.int .i64 81],.tup [.slcT none (.I .i64 [3]) 1 1 false,.int .i64 0]⟩
theorem Qi:bV Tryz.prog Ry:=dX named mixed Aq jA [68] KtB.kt 100000 40 (H':=[⟨true,[]⟩]) (by kernel_rfl) (by kernel_rfl)
noncomputable def Jx:List jK:=Ry::Jw
theorem Ar:∀ e ∈ Jx,bV Tryz.prog e:=eH Qi Aq
noncomputable def Rz:jK:=⟨36,[.slcT none (.I .i64 [100,110,20,60,5,90,90,10,30,3,150,150,0,40,4,130,140,30,35,6]) 5 4 true,.int .i64 1],.tup [.int .i64 8,.slcT none (.I .i64 [60]) 1 1 false,.int .i64 0]⟩
theorem Qj:bV Tryz.prog Rz:=dX named mixed Ar jA [68] KtB.kt 100000 40 (H':=[⟨true,[]⟩]) (by kernel_rfl) (by kernel_rfl)
noncomputable def NI:List jK:=Rz::Jx
theorem GB:∀ e ∈ NI,bV Tryz.prog e:=eH Qj Ar
end Go.Proofs.YtigmfpmabgekoaaGreat.Known
end
section
namespace Go.Proofs.YtigmfpmabgekoaaGreat.Known
open Go.Eng Go.Proofs
noncomputable def EW:jK:=⟨15,[],.bool true⟩
theorem okW:bV Tryz.prog EW:=dX named mixed GB jA [68] KtB.kt 100000 40 (H':=[⟨true,[]⟩]) (by kernel_rfl) (by kernel_rfl)
end Go.Proofs.YtigmfpmabgekoaaGreat.Known
end
