/- Lay: laid (own copy): bits. -/
import Derived.Test.YtoomemfhcbajoaaV8Lb34x23
set_option linter.unusedVariables false
set_option linter.unusedSimpArgs false
set_option maxRecDepth 100000
section
namespace Go.Eng
open Go.Proofs
noncomputable def xB (h dn st T ma j:Int):aq:=[(1,.int .i64 h),(2,.int .i64 dn),(3,.int .i64 st),(4,.int .i64 T),(5,.ptr 0 0 0 0),(11,.int .i64 ma),(12,.int .i64 j)]
noncomputable def r5 (h dn st T ma j i:Int):aq:=[(1,.int .i64 h),(2,.int .i64 dn),(3,.int .i64 st),(4,.int .i64 T),(5,.ptr 0 0 0 0),(11,.int .i64 ma),(12,.int .i64 j),(13,.int .i64 i)]
theorem LC (n l k:Nat) (t d:Nat→Int) (h dn st T ma j i:Int) (H:aa):aN (bA n 80 61) (il aQ n 0) aT aU (part Try.f80 [1,1,0,1,0,0,1,0,0,1,1,1,1,0,0]) (hints (r5 h dn st T ma j i)) (iY l t k d::H) =
 (fun (Z0:aV)=>((fun (Z1:aC)=>Tr.ite (cF i (Int.ofNat l)) (Tr.req (dJ i l) (Tr.req (dg (aA 0 i 1) l) (Tr.ite (dX (t (aA 0 i 1)) j) (Tr.req (mU (Int.ofNat 0) i) (Tr.ite (dX (ry IntKind.i64 (zb IntKind.i64 dn i) (Int.ofNat 1)) (Int.ofNat 0)) (Tr.ok (Ex.ret,[(10,AV.bool false,some 1)],Z0::H)) (Tr.ok (Ex.normal,Z1,Z0::H)))) (Tr.ok (Ex.normal,Z1,Z0::H))))) (Tr.ok (Ex.exit 2,[(1,AV.int .i64 h,none),(2,AV.int .i64 dn,none),(3,AV.int .i64 st,none),(4,AV.int .i64 T,none),(5,AV.ptr 0 0 0 0,none),(11,AV.int .i64 ma,none),(12,AV.int .i64 j,none),(13,AV.int .i64 i,none),(44,AV.bool false,some 1)],Z0::H))) [(1,AV.int .i64 h,none),(2,AV.int .i64 dn,none),(3,AV.int .i64 st,none),(4,AV.int .i64 T,none),(5,AV.ptr 0 0 0 0,none),(11,AV.int .i64 ma,none),(12,AV.int .i64 j,none),(13,AV.int .i64 (bf .i64 i (Int.ofNat 1)),none)])) { lock:=false,bs:=[(0,ak.row (Row.G [AV.slcT none (Row.M [ah.arr .i64 t l]) 1 l false,AV.slcT none (Row.M [ah.arr .i64 d k]) 1 k false]))] }:=by kernel_rfl
theorem t80 (n l k:Nat) (t d:Nat→Int) (h dn st T ma j:Int) (b:Bool) (H:aa):aN (bA n 80 61) (il aQ n 0) (dp aT 2 (r5 h dn st T (bf .i64 ma (Int.ofNat 1)) j 0) (iY l t k d::H) (.ite b (.ok (.ret,hints [(10,.bool false)],iY l t k d::H)) (.ok (.normal,hints (r5 h dn st T (bf .i64 ma (Int.ofNat 1)) j (Int.ofNat l)++[(44,.bool false)]),iY l t k d::H)))) aU (part Try.f80 [1,1,0,1,0,0]) (hints (xB h dn st T ma j)) (iY l t k d::H) =
 (fun (Z0:aV)=>((fun (Z1:aq)=>Tr.ite (cF j (Int.ofNat l)) (Tr.req (mU (Int.ofNat 0) j) (Tr.ite (dX (ry IntKind.i64 (zb IntKind.i64 st j) (Int.ofNat 1)) (Int.ofNat 0)) (Tr.ok (Ex.normal,[(1,AV.int .i64 h,none),(2,AV.int .i64 dn,none),(3,AV.int .i64 st,none),(4,AV.int .i64 T,none),(5,AV.ptr 0 0 0 0,none),(11,AV.int .i64 ma,none),(12,AV.int .i64 (bf .i64 j (Int.ofNat 1)),none)],Z0::H)) (Tr.req (dJ j k) (Tr.req (dg (aA 0 j 1) k) (Tr.ite (cF (d (aA 0 j 1)) T) (Tr.ok (Ex.ret,[(10,AV.bool false,some 1)],Z0::H)) (Tr.ite (cF h (bf .i64 ma (Int.ofNat 1))) (Tr.ok (Ex.ret,[(10,AV.bool false,some 1)],Z0::H)) (Tr.reqP (Z1=Z1∧Z0::H=Z0::H) (Tr.ite b (Tr.ok (Ex.ret,[(10,AV.bool false,none)],Z0::H)) (Tr.ok (Ex.normal,[(1,AV.int .i64 h,none),(2,AV.int .i64 dn,none),(3,AV.int .i64 st,none),(4,AV.int .i64 T,none),(5,AV.ptr 0 0 0 0,none),(11,AV.int .i64 (bf .i64 ma (Int.ofNat 1)),none),(12,AV.int .i64 (bf .i64 j (Int.ofNat 1)),none)],Z0::H)))))))))) (Tr.ok (Ex.exit 0,[(1,AV.int .i64 h,none),(2,AV.int .i64 dn,none),(3,AV.int .i64 st,none),(4,AV.int .i64 T,none),(5,AV.ptr 0 0 0 0,none),(11,AV.int .i64 ma,none),(12,AV.int .i64 j,none),(18,AV.bool false,some 1)],Z0::H))) [(1,AV.int .i64 h),(2,AV.int .i64 dn),(3,AV.int .i64 st),(4,AV.int .i64 T),(5,AV.ptr 0 0 0 0),(11,AV.int .i64 (bf .i64 ma (Int.ofNat 1))),(12,AV.int .i64 j),(13,AV.int .i64 (Int.ofNat 0))])) { lock:=false,bs:=[(0,ak.row (Row.G [AV.slcT none (Row.M [ah.arr .i64 t l]) 1 l false,AV.slcT none (Row.M [ah.arr .i64 d k]) 1 k false]))] }:=by kernel_rfl
theorem N7 (n l k:Nat) (t d:Nat→Int) (h dn st T ma j:Int) (H:aa):aN (bA n 80 61) (il aQ n 0) (dp aT 2 [] [] .bad) aU (part Try.f80 [1,1,0,1,0,0]) (hints (xB h dn st T ma j)) (iY l t k d::H) =
 (fun (Z0:aV)=>Tr.ite (cF j (Int.ofNat l)) (Tr.req (mU (Int.ofNat 0) j) (Tr.ite (dX (ry IntKind.i64 (zb IntKind.i64 st j) (Int.ofNat 1)) (Int.ofNat 0)) (Tr.ok (Ex.normal,[(1,AV.int .i64 h,none),(2,AV.int .i64 dn,none),(3,AV.int .i64 st,none),(4,AV.int .i64 T,none),(5,AV.ptr 0 0 0 0,none),(11,AV.int .i64 ma,none),(12,AV.int .i64 (bf .i64 j (Int.ofNat 1)),none)],Z0::H)) (Tr.req (dJ j k) (Tr.req (dg (aA 0 j 1) k) (Tr.ite (cF (d (aA 0 j 1)) T) (Tr.ok (Ex.ret,[(10,AV.bool false,some 1)],Z0::H)) (Tr.ite (cF h (bf .i64 ma (Int.ofNat 1))) (Tr.ok (Ex.ret,[(10,AV.bool false,some 1)],Z0::H)) (Tr.reqP ([(1,AV.int .i64 h),(2,AV.int .i64 dn),(3,AV.int .i64 st),(4,AV.int .i64 T),(5,AV.ptr 0 0 0 0),(11,AV.int .i64 (bf .i64 ma (Int.ofNat 1))),(12,AV.int .i64 j),(13,AV.int .i64 (Int.ofNat 0))]=[]∧Z0::H=[]) Tr.bad))))))) (Tr.ok (Ex.exit 0,[(1,AV.int .i64 h,none),(2,AV.int .i64 dn,none),(3,AV.int .i64 st,none),(4,AV.int .i64 T,none),(5,AV.ptr 0 0 0 0,none),(11,AV.int .i64 ma,none),(12,AV.int .i64 j,none),(18,AV.bool false,some 1)],Z0::H))) { lock:=false,bs:=[(0,ak.row (Row.G [AV.slcT none (Row.M [ah.arr .i64 t l]) 1 l false,AV.slcT none (Row.M [ah.arr .i64 d k]) 1 k false]))] }:=by kernel_rfl
theorem RL (n l k:Nat) (t d:Nat→Int) (h dn st T ma:Int) (b:Bool) (H:aa):bz Try.prog (cd n) 100000 80 Try.f80 (KtL.kt 80) (il aQ n 0) (dp aT 0 (xB h dn st T 0 0) (iY l t k d::H) (.ite b (.ok (.ret,hints [(10,.bool false)],iY l t k d::H)) (.ok (.normal,hints (xB h dn st T ma (Int.ofNat l)++[(18,.bool false)]),iY l t k d::H)))) aU [(dV l t k d,none),(.int .i64 h,none),(.int .i64 dn,none),(.int .i64 st,none),(.int .i64 T,none)] H =
 (fun (Z0:aq)=>((fun (Z1:aV)=>Tr.reqP (Z0=Z0∧Z1::H=Z1::H) (Tr.ite b (Tr.ok ((AV.bool false,none),H)) (Tr.ok ((AV.bool true,some 1),H)))) { lock:=false,bs:=[(0,ak.row (Row.G [AV.slcT none (Row.M [ah.arr .i64 t l]) 1 l false,AV.slcT none (Row.M [ah.arr .i64 d k]) 1 k false]))] })) [(1,AV.int .i64 h),(2,AV.int .i64 dn),(3,AV.int .i64 st),(4,AV.int .i64 T),(5,AV.ptr 0 0 0 0),(11,AV.int .i64 (Int.ofNat 0)),(12,AV.int .i64 (Int.ofNat 0))]:=by kernel_rfl
theorem O4:∀ b,(0,b) ∈ aM (bR Try.f80)→b=.loop (part Try.f80 [1,1,0,1,0,0]):=g7 (by kernel_rfl)
theorem Ke:∀ b,(2,b) ∈ aM (part Try.f80 [1,1,0,1,0,0])→b=.loop (part Try.f80 [1,1,0,1,0,0,1,0,0,1,1,1,1,0,0]):=g7 (by kernel_rfl)
def bt (S i:Nat):Bool:=decide (S / 2 ^ i % 2=1)
theorem DV (x:Nat):BitVec.ofInt 64 (x:Int)=BitVec.ofNat 64 x:=by
 apply BitVec.eq_of_toNat_eq
 simp[BitVec.toNat_ofInt,BitVec.toNat_ofNat]
theorem AP {x y:Nat} (hx:x<2 ^ 63) (hy:y<2 ^ 63):ry .i64 (x:Int) (y:Int)=((x &&& y:Nat):Int):=by
 rw[qX]
 show IntKind.i64.wrap ((BitVec.ofInt 64 (x:Int) &&& BitVec.ofInt 64 (y:Int)).toNat:Nat)=_
 have h1:x &&& y<2 ^ 63:=Nat.and_lt_two_pow x hy
 rw[DV,DV,BitVec.toNat_and,BitVec.toNat_ofNat,BitVec.toNat_ofNat,Nat.mod_eq_of_lt (by omega),Nat.mod_eq_of_lt (by omega),lq (by omega) (by omega)]
theorem Hl {x i:Nat} (hi:i<64):zb .i64 (x:Int) (i:Int)=((x / 2 ^ i:Nat):Int):=by
 rw[B8]
 show (x:Int).fdiv (2 ^ min i 64)=_
 rw[Nat.min_eq_left (by omega),Int.fdiv_eq_ediv_of_nonneg _ (Int.le_of_lt (Int.pow_pos (by decide)))]
 rw[show (2:Int) ^ i=((2 ^ i:Nat):Int) from by rw[Int.natCast_pow];rfl]
 rfl
theorem B7 {i:Nat} (hi:i<62):tS .i64 (Int.ofNat 1) (i:Int)=((2 ^ i:Nat):Int):=by
 rw[B6]
 show IntKind.i64.wrap (1*2 ^ min i 64)=_
 have:(2:Nat) ^ i≤2 ^ 62:=Nat.pow_le_pow_right (by decide) (by omega)
 rw[Nat.min_eq_left (by omega),Int.one_mul,show (2:Int) ^ i=((2 ^ i:Nat):Int) from by rw[Int.natCast_pow];rfl]
 generalize (2:Nat) ^ i=P at *
 exact lq (by omega) (by omega)
theorem DT {S i:Nat} (hS:S<2 ^ 62) (hi:i<64):dX (ry .i64 (zb .i64 (S:Int) (i:Int)) (Int.ofNat 1)) (Int.ofNat 0)=!bt S i:=by
 have h1:S / 2 ^ i≤S:=Nat.div_le_self _ _
 rw[Hl hi,show (Int.ofNat 1:Int)=((1:Nat):Int) from rfl,AP (by omega) (by decide),Nat.and_one_is_mod,dB]
 unfold bt
 have:S / 2 ^ i % 2<2:=Nat.mod_lt _ (by decide)
 rw[Bool.eq_iff_iff,beq_iff_eq,Bool.not_eq_true',decide_eq_false_iff_not]
 show ((S / 2 ^ i % 2:Nat):Int)=0↔_
 omega
def FT (t:Nat→Int) (D j i:Nat):Bool:=decide (t i=(j:Int)) && !bt D i
def Ad (l:Nat) (t d:Nat→Int) (h:Int) (D S:Nat) (T:Int) (j:Nat):Bool:=bt S j && (decide (d j<T) || decide (h<(cn (bt S) (j+1):Int)) || dC (FT t D j) l)
section
variable (n l k:Nat) (t d:Nat→Int) (h:Int) (D S:Nat) (T:Int) (H:aa)
theorem Nr (ma:Int) (j:Nat) (hl:l≤30) (hD:D<2 ^ 62):exec (bA n 80 61) (.block 2 (.loop (part Try.f80 [1,1,0,1,0,0,1,0,0,1,1,1,1,0,0]))) (r5 h D S T ma (j:Nat) ((0:Nat):Int)) (iY l t k d::H)=some (cond (dC (FT t D j) l) (.ret,[(10,.bool false)],iY l t k d::H) (.normal,r5 h D S T ma (j:Nat) (Int.ofNat l)++[(44,.bool false)],iY l t k d::H)):=by
 refine qk (n:=n) (f:=80) (nt:=61) (c:=part Try.f80 [1,1,0,1,0,0,1,0,0,1,1,1,1,0,0]) 2 (fun i=>r5 h D S T ma (j:Nat) (i:Nat)) (fun i=>iY l t k d::H) l (FT t D j) (fun i=>([(10,.bool false)],iY l t k d::H)) _ (by omega) (fun i hi=>?_) ?_
 · refine aO (LC n l k t d h D S T ma (j:Nat) (i:Nat) H) (aB n) (af _ _) (ag _ _) ?_
   show Tr.all _ (fun r=>if FT t D j i=true then _ else _∧tidy _ _ _=(r5 h D S T ma (j:Nat) ((i+1:Nat):Int),iY l t k d::H))
   rw[ft (j:=i) (by omega)]
   have e:=DT (S:=D) (i:=i) hD (by omega)
   simp only[nj,e]
   have ew:FT t D j i=(decide (t i=(j:Int)) && !bt D i):=rfl
   rw[ew]
   generalize bt D i=B at *
   by_cases c:t i=(j:Int)
   · rw[decide_eq_true c]
     cases B with
     | true =>
       simp only[Bool.not_true,Bool.and_false,Bool.false_eq_true,if_false]
       exact wF
     | false =>
       simp only[Bool.not_false,Bool.and_true,if_true]
       exact wF
   · rw[decide_eq_false c]
     simp only[Bool.false_and,Bool.false_eq_true,if_false]
     exact wF
 · exact hJ (LC n l k t d h D S T ma (j:Nat) (Int.ofNat l) H) (aB n) (af _ _) (ag _ _) (by first | (simp (disch:=omega) only[nV,nW];done) | (simp (disch:=omega) only[nV,nW];omega))
theorem Ra (hl:l≤30) (hk:k=l) (hD:D<2 ^ 62) (hS:S<2 ^ 62):exec (bA n 80 61) (.block 0 (.loop (part Try.f80 [1,1,0,1,0,0]))) (xB h D S T ((cn (bt S) 0:Nat):Int) ((0:Nat):Int)) (iY l t k d::H)=some (cond (dC (Ad l t d h D S T) l) (.ret,[(10,.bool false)],iY l t k d::H) (.normal,xB h D S T ((cn (bt S) l:Nat):Int) (Int.ofNat l)++[(18,.bool false)],iY l t k d::H)):=by
 subst hk
 refine qk (n:=n) (f:=80) (nt:=61) (c:=part Try.f80 [1,1,0,1,0,0]) 0 (fun j=>xB h D S T ((cn (bt S) j:Nat):Int) (j:Nat)) (fun i=>iY k t k d::H) k (Ad k t d h D S T) (fun i=>([(10,.bool false)],iY k t k d::H)) _ (by omega) (fun j hj=>?_) ?_
 · have hcn:=lB (bt S) j
   have hx:=Nr n k k t d h D S T H ((cn (bt S) j+1:Nat):Int) j hl hD
   refine aO (t80 n k k t d h D S T ((cn (bt S) j:Nat):Int) (j:Nat) (dC (FT t D j) k) H) (aB n) (aW (af _ _) Ke (fun x hy=>jf hy (by rw[ft (j:=cn (bt S) j) (by omega)];exact hx))) (ag _ _) ?_
   show Tr.all _ (fun r=>if Ad k t d h D S T j=true then _ else _∧tidy _ _ _=(xB h D S T ((cn (bt S) j+(bt S j).toNat:Nat):Int) ((j+1:Nat):Int),iY k t k d::H))
   rw[ft (j:=j) (by omega),ft (j:=cn (bt S) j) (by omega)]
   have e:=DT (S:=S) (i:=j) hS (by omega)
   have ew:Ad k t d h D S T j=(bt S j && (decide (d j<T) || decide (h<((cn (bt S) j+(bt S j).toNat:Nat):Int)) || dC (FT t D j) k)):=rfl
   simp only[nj,e]
   rw[ew]
   clear hx ew e
   generalize dC (FT t D j) k=X at *
   generalize bt S j=B at *
   generalize cn (bt S) j=N at *
   cases B with
   | true =>
     simp only[Bool.toNat_true,Bool.true_and,Bool.not_true]
     by_cases c1:d j<T
     · rw[decide_eq_true c1]
       simp only[Bool.true_or,if_true]
       exact wF
     · rw[decide_eq_false c1]
       by_cases c2:h<((N+1:Nat):Int)
       · rw[decide_eq_true c2]
         simp only[Bool.true_or,Bool.false_or,if_true]
         exact wF
       · rw[decide_eq_false c2]
         cases X with
         | true =>
           simp only[Bool.or_true,if_true]
           exact wF
         | false =>
           simp only[Bool.or_false,Bool.false_eq_true,if_false]
           exact wF
   | false =>
     simp only[Bool.toNat_false,Bool.false_and,Bool.not_false,Nat.add_zero,Bool.false_eq_true,if_false]
     exact wF
 · exact hJ (N7 n k k t d h D S T ((cn (bt S) k:Nat):Int) (Int.ofNat k) H) (aB n) (aW (af _ _) Ke (fun x hx=>(Tr.ae hx).elim)) (ag _ _) (by first | (simp (disch:=omega) only[nV,nW];done) | (simp (disch:=omega) only[nV,nW];omega))
theorem Pl (hl:l≤30) (hk:k=l) (hD:D<2 ^ 62) (hS:S<2 ^ 62):cd (n+1) (.fn 80) [dV l t k d,.int .i64 h,.int .i64 D,.int .i64 S,.int .i64 T] H=some (.bool (!dC (Ad l t d h D S T) l),H):=by
 have hx:=Ra n l k t d h D S T H hl hk hD hS
 refine aR (n:=n) Try.func80 rfl rfl rfl (RL n l k t d h D S T ((cn (bt S) l:Nat):Int) (dC (Ad l t d h D S T) l) H) (aB _) (aW (af _ _) O4 (fun x hy=>jf hy hx)) (ag _ _) ?_
 clear hx
 generalize dC (Ad l t d h D S T) l=B at *
 cases B
 all_goals
  exact wF
end
end Go.Eng
end
section
namespace Go.Eng
open Go.Proofs
noncomputable def iC (l:Nat) (t:Nat→Int) (k:Nat) (d z:Nat→Int):aV:=⟨false,[Ml l t k d,(0,.row (.M [.arr .i64 z 2624]))]⟩
noncomputable def Lv (l:Nat) (t:Nat→Int) (k:Nat) (d:Nat→Int) (q:Nat) (H:aa):aa:=Nat.rec H (fun _ r=>iY l t k d::r) q
noncomputable def qS (q l:Nat) (h D T a s:Int):aq:=[(1,.int .i64 h),(2,.int .i64 D),(3,.int .i64 T),(4,.slc (q+1) 1 0 0 1 2624 (some 2624)),(5,.ptr 0 0 0 0),(11,.int .i64 (Int.ofNat l)),(12,.int .i64 a),(13,.int .i64 s)]
theorem OU (n q l k:Nat) (t d z z1 z2:Nat→Int) (h D T e:Int) (b:Bool) (H:aa) (hq:q<42):bz Try.prog (cd n) 100000 44 Try.f44 (KtL.kt 44) (il aQ n 0) (dp aT 0 (qS q l h D T (bf .i64 (fg .i64 D (Int.ofNat 41)) T) 0) (Lv l t k d (q+1) (iC l t k d (c7 z (aA 0 (bf .i64 (fg .i64 D (Int.ofNat 41)) T) 1) (Int.ofNat 2))::H)) (.ite b (.ok (.ret,hints [(10,.bool true)],Lv l t k d (q+1) (iC l t k d z1::H))) (.ok (.normal,hints (qS q l h D T (bf .i64 (fg .i64 D (Int.ofNat 41)) T) e++[(44,.bool false)]),Lv l t k d (q+1) (iC l t k d z2::H))))) aU [(dV l t k d,none),(.int .i64 h,none),(.int .i64 D,none),(.int .i64 T,none),(.slc q 1 0 0 1 2624 (some 2624),none)] (Lv l t k d q (iC l t k d z::H)) =
 Tr.req (mU (Int.ofNat 0) (Int.ofNat l)) (Tr.ite (dX D (cB .i64 (tS IntKind.i64 (Int.ofNat 1) (Int.ofNat l)) (Int.ofNat 1))) (Tr.ok ((AV.bool true,some 1),Lv l t k d q (iC l t k d z::H))) (Tr.ite (cF (Int.ofNat 40) T) (Tr.ok ((AV.bool false,some 1),Lv l t k d q (iC l t k d z::H))) (Tr.req (dJ (bf .i64 (fg .i64 D (Int.ofNat 41)) T) 2624) (Tr.req (cT 0 0) (Tr.req (dg (aA 0 (bf .i64 (fg .i64 D (Int.ofNat 41)) T) 1) 2624) (Tr.ite (bx (dX (z (aA 0 (bf .i64 (fg .i64 D (Int.ofNat 41)) T) 1)) (Int.ofNat 0))) (Tr.req (dJ (bf .i64 (fg .i64 D (Int.ofNat 41)) T) 2624) (Tr.req (cT 0 0) (Tr.req (dg (aA 0 (bf .i64 (fg .i64 D (Int.ofNat 41)) T) 1) 2624) (Tr.ok ((AV.bool (dX (z (aA 0 (bf .i64 (fg .i64 D (Int.ofNat 41)) T) 1)) (Int.ofNat 1)),none),Lv l t k d q (iC l t k d z::H)))))) (Tr.req (dJ (bf .i64 (fg .i64 D (Int.ofNat 41)) T) 2624) (Tr.req (cT 0 0) (Tr.req (dg (aA 0 (bf .i64 (fg .i64 D (Int.ofNat 41)) T) 1) 2624) (Tr.reqP ([(1,AV.int .i64 h),(2,AV.int .i64 D),(3,AV.int .i64 T),(4,AV.slc (q+1) 1 0 0 1 2624 (some 2624)),(5,AV.ptr 0 0 0 0),(11,AV.int .i64 (Int.ofNat l)),(12,AV.int .i64 (bf .i64 (fg .i64 D (Int.ofNat 41)) T)),(13,AV.int .i64 (Int.ofNat 0))]=[(1,AV.int .i64 h),(2,AV.int .i64 D),(3,AV.int .i64 T),(4,AV.slc (q+1) 1 0 0 1 2624 (some 2624)),(5,AV.ptr 0 0 0 0),(11,AV.int .i64 (Int.ofNat l)),(12,AV.int .i64 (bf .i64 (fg .i64 D (Int.ofNat 41)) T)),(13,AV.int .i64 (Int.ofNat 0))]∧Lv l t k d (q+1) (iC l t k d (c7 z (aA 0 (bf .i64 (fg .i64 D (Int.ofNat 41)) T) 1) (Int.ofNat 2))::H)=Lv l t k d (q+1) (iC l t k d (c7 z (aA 0 (bf .i64 (fg .i64 D (Int.ofNat 41)) T) 1) (Int.ofNat 2))::H)) (Tr.ite b (Tr.ok ((AV.bool true,none),Lv l t k d q (iC l t k d z1::H))) (Tr.ok ((AV.bool false,some 1),Lv l t k d q (iC l t k d z2::H)))))))))))))) :=
 match q,hq with
 | 0,_=>by kernel_rfl
 | 1,_=>by kernel_rfl
 | 2,_=>by kernel_rfl
 | 3,_=>by kernel_rfl
 | 4,_=>by kernel_rfl
 | 5,_=>by kernel_rfl
 | 6,_=>by kernel_rfl
 | 7,_=>by kernel_rfl
 | 8,_=>by kernel_rfl
 | 9,_=>by kernel_rfl
 | 10,_=>by kernel_rfl
 | 11,_=>by kernel_rfl
 | 12,_=>by kernel_rfl
 | 13,_=>by kernel_rfl
 | 14,_=>by kernel_rfl
 | 15,_=>by kernel_rfl
 | 16,_=>by kernel_rfl
 | 17,_=>by kernel_rfl
 | 18,_=>by kernel_rfl
 | 19,_=>by kernel_rfl
 | 20,_=>by kernel_rfl
 | 21,_=>by kernel_rfl
 | 22,_=>by kernel_rfl
 | 23,_=>by kernel_rfl
 | 24,_=>by kernel_rfl
 | 25,_=>by kernel_rfl
 | 26,_=>by kernel_rfl
 | 27,_=>by kernel_rfl
 | 28,_=>by kernel_rfl
 | 29,_=>by kernel_rfl
 | 30,_=>by kernel_rfl
 | 31,_=>by kernel_rfl
 | 32,_=>by kernel_rfl
 | 33,_=>by kernel_rfl
 | 34,_=>by kernel_rfl
 | 35,_=>by kernel_rfl
 | 36,_=>by kernel_rfl
 | 37,_=>by kernel_rfl
 | 38,_=>by kernel_rfl
 | 39,_=>by kernel_rfl
 | 40,_=>by kernel_rfl
 | 41,_=>by kernel_rfl
 | q+42,h=>by omega
theorem JV (n q l k:Nat) (t d z:Nat→Int) (h D T:Int) (H:aa) (hq:q<42):bz Try.prog (cd n) 100000 44 Try.f44 (KtL.kt 44) (il aQ n 0) (dp aT 0 [] [] .bad) aU [(dV l t k d,none),(.int .i64 h,none),(.int .i64 D,none),(.int .i64 T,none),(.slc q 1 0 0 1 2624 (some 2624),none)] (Lv l t k d q (iC l t k d z::H)) =
 Tr.req (mU (Int.ofNat 0) (Int.ofNat l)) (Tr.ite (dX D (cB .i64 (tS IntKind.i64 (Int.ofNat 1) (Int.ofNat l)) (Int.ofNat 1))) (Tr.ok ((AV.bool true,some 1),Lv l t k d q (iC l t k d z::H))) (Tr.ite (cF (Int.ofNat 40) T) (Tr.ok ((AV.bool false,some 1),Lv l t k d q (iC l t k d z::H))) (Tr.req (dJ (bf .i64 (fg .i64 D (Int.ofNat 41)) T) 2624) (Tr.req (cT 0 0) (Tr.req (dg (aA 0 (bf .i64 (fg .i64 D (Int.ofNat 41)) T) 1) 2624) (Tr.ite (bx (dX (z (aA 0 (bf .i64 (fg .i64 D (Int.ofNat 41)) T) 1)) (Int.ofNat 0))) (Tr.req (dJ (bf .i64 (fg .i64 D (Int.ofNat 41)) T) 2624) (Tr.req (cT 0 0) (Tr.req (dg (aA 0 (bf .i64 (fg .i64 D (Int.ofNat 41)) T) 1) 2624) (Tr.ok ((AV.bool (dX (z (aA 0 (bf .i64 (fg .i64 D (Int.ofNat 41)) T) 1)) (Int.ofNat 1)),none),Lv l t k d q (iC l t k d z::H)))))) (Tr.req (dJ (bf .i64 (fg .i64 D (Int.ofNat 41)) T) 2624) (Tr.req (cT 0 0) (Tr.req (dg (aA 0 (bf .i64 (fg .i64 D (Int.ofNat 41)) T) 1) 2624) (Tr.reqP ([(1,AV.int .i64 h),(2,AV.int .i64 D),(3,AV.int .i64 T),(4,AV.slc (q+1) 1 0 0 1 2624 (some 2624)),(5,AV.ptr 0 0 0 0),(11,AV.int .i64 (Int.ofNat l)),(12,AV.int .i64 (bf .i64 (fg .i64 D (Int.ofNat 41)) T)),(13,AV.int .i64 (Int.ofNat 0))]=[]∧Lv l t k d (q+1) (iC l t k d (c7 z (aA 0 (bf .i64 (fg .i64 D (Int.ofNat 41)) T) 1) (Int.ofNat 2))::H)=[]) Tr.bad)))))))))) :=
 match q,hq with
 | 0,_=>by kernel_rfl
 | 1,_=>by kernel_rfl
 | 2,_=>by kernel_rfl
 | 3,_=>by kernel_rfl
 | 4,_=>by kernel_rfl
 | 5,_=>by kernel_rfl
 | 6,_=>by kernel_rfl
 | 7,_=>by kernel_rfl
 | 8,_=>by kernel_rfl
 | 9,_=>by kernel_rfl
 | 10,_=>by kernel_rfl
 | 11,_=>by kernel_rfl
 | 12,_=>by kernel_rfl
 | 13,_=>by kernel_rfl
 | 14,_=>by kernel_rfl
 | 15,_=>by kernel_rfl
 | 16,_=>by kernel_rfl
 | 17,_=>by kernel_rfl
 | 18,_=>by kernel_rfl
 | 19,_=>by kernel_rfl
 | 20,_=>by kernel_rfl
 | 21,_=>by kernel_rfl
 | 22,_=>by kernel_rfl
 | 23,_=>by kernel_rfl
 | 24,_=>by kernel_rfl
 | 25,_=>by kernel_rfl
 | 26,_=>by kernel_rfl
 | 27,_=>by kernel_rfl
 | 28,_=>by kernel_rfl
 | 29,_=>by kernel_rfl
 | 30,_=>by kernel_rfl
 | 31,_=>by kernel_rfl
 | 32,_=>by kernel_rfl
 | 33,_=>by kernel_rfl
 | 34,_=>by kernel_rfl
 | 35,_=>by kernel_rfl
 | 36,_=>by kernel_rfl
 | 37,_=>by kernel_rfl
 | 38,_=>by kernel_rfl
 | 39,_=>by kernel_rfl
 | 40,_=>by kernel_rfl
 | 41,_=>by kernel_rfl
 | q+42,h=>by omega
theorem t44 (n q l k:Nat) (t d z z2:Nat→Int) (h D T a s:Int) (b1 b2:Bool) (H:aa) (hq:q<42):aN (bA n 44 72) (il (A5 (tX aQ 80 [dV l t k d,.int .i64 h,.int .i64 D,.int .i64 s,.int .i64 T] (.bool b1)) 44 [dV l t k d,.int .i64 h,.int .i64 (bf .i64 D s),.int .i64 (bf .i64 T (Int.ofNat 1)),.slc (q+1) 1 0 0 1 2624 (some 2624)] (Lv l t k d (q+1) (iC l t k d z::H)) (.ok (.bool b2,Lv l t k d (q+1) (iC l t k d z2::H)))) n 0) aT aU (part Try.f44 [1,1,1,1,1,1,1,0,1,0,0]) (hints (qS q l h D T a s)) (Lv l t k d (q+1) (iC l t k d z::H)) =
 Tr.req (mU (Int.ofNat 0) (Int.ofNat l)) (Tr.ite (cF s (tS IntKind.i64 (Int.ofNat 1) (Int.ofNat l))) (Tr.ite (bx (dX (ry IntKind.i64 s D) (Int.ofNat 0))) (Tr.ok (Ex.normal,[(1,AV.int .i64 h,none),(2,AV.int .i64 D,none),(3,AV.int .i64 T,none),(4,AV.slc (q+1) 1 0 0 1 2624 (some 2624),none),(5,AV.ptr 0 0 0 0,none),(11,AV.int .i64 (Int.ofNat l),none),(12,AV.int .i64 a,none),(13,AV.int .i64 (bf .i64 s (Int.ofNat 1)),none)],Lv l t k d (q+1) (iC l t k d z::H))) (Tr.reqP ([AV.agg (Row.G [AV.slcT none (Row.M [ah.arr .i64 t l]) 1 l false,AV.slcT none (Row.M [ah.arr .i64 d k]) 1 k false]),AV.int .i64 h,AV.int .i64 D,AV.int .i64 s,AV.int .i64 T]=[AV.agg (Row.G [AV.slcT none (Row.M [ah.arr .i64 t l]) 1 l false,AV.slcT none (Row.M [ah.arr .i64 d k]) 1 k false]),AV.int .i64 h,AV.int .i64 D,AV.int .i64 s,AV.int .i64 T]) (Tr.ite (bx b1) (Tr.ok (Ex.normal,[(1,AV.int .i64 h,none),(2,AV.int .i64 D,none),(3,AV.int .i64 T,none),(4,AV.slc (q+1) 1 0 0 1 2624 (some 2624),none),(5,AV.ptr 0 0 0 0,none),(11,AV.int .i64 (Int.ofNat l),none),(12,AV.int .i64 a,none),(13,AV.int .i64 (bf .i64 s (Int.ofNat 1)),none)],Lv l t k d (q+1) (iC l t k d z::H))) (Tr.reqP ([AV.agg (Row.G [AV.slcT none (Row.M [ah.arr .i64 t l]) 1 l false,AV.slcT none (Row.M [ah.arr .i64 d k]) 1 k false]),AV.int .i64 h,AV.int .i64 (bf .i64 D s),AV.int .i64 (bf .i64 T (Int.ofNat 1)),AV.slc (q+1) 1 0 0 1 2624 (some 2624)]=[AV.agg (Row.G [AV.slcT none (Row.M [ah.arr .i64 t l]) 1 l false,AV.slcT none (Row.M [ah.arr .i64 d k]) 1 k false]),AV.int .i64 h,AV.int .i64 (bf .i64 D s),AV.int .i64 (bf .i64 T (Int.ofNat 1)),AV.slc (q+1) 1 0 0 1 2624 (some 2624)]∧Lv l t k d (q+1) (iC l t k d z::H)=Lv l t k d (q+1) (iC l t k d z::H)) (Tr.ite b2 (Tr.req (dJ a 2624) (Tr.req (cT 0 0) (Tr.req (dg (aA 0 a 1) 2624) (Tr.ok (Ex.ret,[(10,AV.bool true,some 1)],Lv l t k d (q+1) (iC l t k d (c7 z2 (aA 0 a 1) (Int.ofNat 1))::H)))))) (Tr.ok (Ex.normal,[(1,AV.int .i64 h,none),(2,AV.int .i64 D,none),(3,AV.int .i64 T,none),(4,AV.slc (q+1) 1 0 0 1 2624 (some 2624),none),(5,AV.ptr 0 0 0 0,none),(11,AV.int .i64 (Int.ofNat l),none),(12,AV.int .i64 a,none),(13,AV.int .i64 (bf .i64 s (Int.ofNat 1)),none)],Lv l t k d (q+1) (iC l t k d z2::H)))))))) (Tr.ok (Ex.exit 0,[(1,AV.int .i64 h,none),(2,AV.int .i64 D,none),(3,AV.int .i64 T,none),(4,AV.slc (q+1) 1 0 0 1 2624 (some 2624),none),(5,AV.ptr 0 0 0 0,none),(11,AV.int .i64 (Int.ofNat l),none),(12,AV.int .i64 a,none),(13,AV.int .i64 s,none),(44,AV.bool false,some 1)],Lv l t k d (q+1) (iC l t k d z::H)))) :=
 match q,hq with
 | 0,_=>by kernel_rfl
 | 1,_=>by kernel_rfl
 | 2,_=>by kernel_rfl
 | 3,_=>by kernel_rfl
 | 4,_=>by kernel_rfl
 | 5,_=>by kernel_rfl
 | 6,_=>by kernel_rfl
 | 7,_=>by kernel_rfl
 | 8,_=>by kernel_rfl
 | 9,_=>by kernel_rfl
 | 10,_=>by kernel_rfl
 | 11,_=>by kernel_rfl
 | 12,_=>by kernel_rfl
 | 13,_=>by kernel_rfl
 | 14,_=>by kernel_rfl
 | 15,_=>by kernel_rfl
 | 16,_=>by kernel_rfl
 | 17,_=>by kernel_rfl
 | 18,_=>by kernel_rfl
 | 19,_=>by kernel_rfl
 | 20,_=>by kernel_rfl
 | 21,_=>by kernel_rfl
 | 22,_=>by kernel_rfl
 | 23,_=>by kernel_rfl
 | 24,_=>by kernel_rfl
 | 25,_=>by kernel_rfl
 | 26,_=>by kernel_rfl
 | 27,_=>by kernel_rfl
 | 28,_=>by kernel_rfl
 | 29,_=>by kernel_rfl
 | 30,_=>by kernel_rfl
 | 31,_=>by kernel_rfl
 | 32,_=>by kernel_rfl
 | 33,_=>by kernel_rfl
 | 34,_=>by kernel_rfl
 | 35,_=>by kernel_rfl
 | 36,_=>by kernel_rfl
 | 37,_=>by kernel_rfl
 | 38,_=>by kernel_rfl
 | 39,_=>by kernel_rfl
 | 40,_=>by kernel_rfl
 | 41,_=>by kernel_rfl
 | q+42,h=>by omega
theorem Lx (n q l k:Nat) (t d z:Nat→Int) (h D T a s:Int) (H:aa) (hq:q<42):aN (bA n 44 72) (il (tN (tN aQ 80) 44) n 0) aT aU (part Try.f44 [1,1,1,1,1,1,1,0,1,0,0]) (hints (qS q l h D T a s)) (Lv l t k d (q+1) (iC l t k d z::H)) =
 Tr.req (mU (Int.ofNat 0) (Int.ofNat l)) (Tr.ite (cF s (tS IntKind.i64 (Int.ofNat 1) (Int.ofNat l))) (Tr.ite (bx (dX (ry IntKind.i64 s D) (Int.ofNat 0))) (Tr.ok (Ex.normal,[(1,AV.int .i64 h,none),(2,AV.int .i64 D,none),(3,AV.int .i64 T,none),(4,AV.slc (q+1) 1 0 0 1 2624 (some 2624),none),(5,AV.ptr 0 0 0 0,none),(11,AV.int .i64 (Int.ofNat l),none),(12,AV.int .i64 a,none),(13,AV.int .i64 (bf .i64 s (Int.ofNat 1)),none)],Lv l t k d (q+1) (iC l t k d z::H))) Tr.bad) (Tr.ok (Ex.exit 0,[(1,AV.int .i64 h,none),(2,AV.int .i64 D,none),(3,AV.int .i64 T,none),(4,AV.slc (q+1) 1 0 0 1 2624 (some 2624),none),(5,AV.ptr 0 0 0 0,none),(11,AV.int .i64 (Int.ofNat l),none),(12,AV.int .i64 a,none),(13,AV.int .i64 s,none),(44,AV.bool false,some 1)],Lv l t k d (q+1) (iC l t k d z::H)))) :=
 match q,hq with
 | 0,_=>by kernel_rfl
 | 1,_=>by kernel_rfl
 | 2,_=>by kernel_rfl
 | 3,_=>by kernel_rfl
 | 4,_=>by kernel_rfl
 | 5,_=>by kernel_rfl
 | 6,_=>by kernel_rfl
 | 7,_=>by kernel_rfl
 | 8,_=>by kernel_rfl
 | 9,_=>by kernel_rfl
 | 10,_=>by kernel_rfl
 | 11,_=>by kernel_rfl
 | 12,_=>by kernel_rfl
 | 13,_=>by kernel_rfl
 | 14,_=>by kernel_rfl
 | 15,_=>by kernel_rfl
 | 16,_=>by kernel_rfl
 | 17,_=>by kernel_rfl
 | 18,_=>by kernel_rfl
 | 19,_=>by kernel_rfl
 | 20,_=>by kernel_rfl
 | 21,_=>by kernel_rfl
 | 22,_=>by kernel_rfl
 | 23,_=>by kernel_rfl
 | 24,_=>by kernel_rfl
 | 25,_=>by kernel_rfl
 | 26,_=>by kernel_rfl
 | 27,_=>by kernel_rfl
 | 28,_=>by kernel_rfl
 | 29,_=>by kernel_rfl
 | 30,_=>by kernel_rfl
 | 31,_=>by kernel_rfl
 | 32,_=>by kernel_rfl
 | 33,_=>by kernel_rfl
 | 34,_=>by kernel_rfl
 | 35,_=>by kernel_rfl
 | 36,_=>by kernel_rfl
 | 37,_=>by kernel_rfl
 | 38,_=>by kernel_rfl
 | 39,_=>by kernel_rfl
 | 40,_=>by kernel_rfl
 | 41,_=>by kernel_rfl
 | q+42,h=>by omega
end Go.Eng
end
section
namespace Go.Eng
open Go.Proofs
theorem Kc:∀ b,(0,b) ∈ aM (bR Try.f44)→b=.loop (part Try.f44 [1,1,1,1,1,1,1,0,1,0,0]):=g7 (by kernel_rfl)
section
variable {n f nt:Nat} {c:Code}
theorem Jj (id:Nat) (I:Nat→aq→aa→Prop) (Q R:aq×aa→Prop) (N:Nat) (hN:N<99999) {fr0:aq} {H0:aa} (h0:I 0 fr0 H0)
 (hr:∀ j fr H,I j fr H→∃ x,exec (bA n f nt) c fr H=some x∧((x.1=.normal∧j<N∧I (j+1) (tidy (al H0) x.2.1 x.2.2).1 (tidy (al H0) x.2.1 x.2.2).2)∨(x.1=.exit id∧Q x.2)∨(x.1=.ret∧R x.2))) :
 ∃ y,(exec (bA n f nt) (.block id (.loop c)) fr0 H0=some (.normal,y)∧Q y)∨(exec (bA n f nt) (.block id (.loop c)) fr0 H0=some (.ret,y)∧R y):=by
 obtain ⟨x,h1,h2⟩:=oD (body:=exec (bA n f nt) c) (n:=al H0) I (fun x=>(x.1=.exit id∧Q x.2)∨(x.1=.ret∧R x.2)) N (fun j fr H h=>by
  obtain ⟨x,h1,h2⟩:=hr j fr H h
  obtain ⟨e,f1,g1⟩:=x
  refine ⟨e,f1,g1,h1,?_⟩
  rcases h2 with h2 | ⟨h2,h3⟩ | ⟨h2,h3⟩
  · exact .inl h2
  · exact .inr ⟨by dsimp only at h2;rw[h2];simp,.inl ⟨h2,h3⟩⟩
  · exact .inr ⟨by dsimp only at h2;rw[h2];simp,.inr ⟨h2,h3⟩⟩) 100000 0 fr0 H0 h0 (by omega)
 obtain ⟨e,f1,g1⟩:=x
 rcases h2 with ⟨h2,h3⟩ | ⟨h2,h3⟩
 · dsimp only at h2 h3
   subst h2
   exact ⟨(f1,g1),.inl ⟨cW h1,h3⟩⟩
 · dsimp only at h2 h3
   subst h2
   exact ⟨(f1,g1),.inr ⟨cR (fun id' h=>by cases h) h1,h3⟩⟩
end
theorem Ed:∀ l,l<7→∀ D,D<2 ^ l→∀ S,S<2 ^ l→S &&& D=0→D+S<2 ^ l:=by decide +kernel
theorem uX:∀ l,l<7→1≤2 ^ l∧2 ^ l≤64:=by decide +kernel
def okB (l:Nat) (t d:Nat→Int) (h:Int) (D:Nat) (T:Int) (S:Nat):Bool:=decide (S &&& D=0) && !dC (Ad l t d h D S T) l
def pA (l:Nat) (t d:Nat→Int) (h:Int):Nat→Nat→Bool
 | 0,D=>decide (D+1=2 ^ l)
 | r+1,D=>decide (D+1=2 ^ l) || dC (fun S=>okB l t d h D ((40-r:Nat):Int) S && pA l t d h r (D+S)) (2 ^ l)
def DD (l:Nat) (t d:Nat→Int) (h:Int) (r:Nat) (z:Nat→Int):Prop:=∀ D T,D<2 ^ l→41≤T+r→T≤40→z (D*41+T)=0∨(z (D*41+T)=1∧pA l t d h (41-T) D=true)∨(z (D*41+T)=2∧pA l t d h (41-T) D=false)
def Ir (l r:Nat) (z z':Nat→Int):Prop:=∀ D T,D<2 ^ l→T+r<41→z' (D*41+T)=z (D*41+T)
section
variable (l k:Nat) (t d:Nat→Int) (h:Int)
theorem Q4 (n q r D:Nat) (z:Nat→Int) (H:aa) (hl:l≤6) (hk:k=l) (hq:q+r=39) (hD:D<2 ^ l)
 (hz:DD l t d h r z) (IH:∀ (D':Nat) (z':Nat→Int),D'<2 ^ l→DD l t d h r z'→∃ z2,cd (n+1) (.fn 44) [dV l t k d,.int .i64 h,.int .i64 (D':Nat),.int .i64 ((41-r:Nat):Int),.slc (q+1) 1 0 0 1 2624 (some 2624)] (Lv l t k d (q+1) (iC l t k d z'::H))=some (.bool (pA l t d h r D'),Lv l t k d (q+1) (iC l t k d z2::H))∧DD l t d h r z2∧Ir l r z' z2) :
 ∃ y,(exec (bA (n+1) 44 72) (.block 0 (.loop (part Try.f44 [1,1,1,1,1,1,1,0,1,0,0]))) (qS q l h (D:Nat) ((40-r:Nat):Int) ((D*41+(40-r):Nat):Int) ((0:Nat):Int)) (Lv l t k d (q+1) (iC l t k d z::H))=some (.normal,y)∧∃ z2,y=(qS q l h (D:Nat) ((40-r:Nat):Int) ((D*41+(40-r):Nat):Int) ((2 ^ l:Nat):Int)++[(44,.bool false)],Lv l t k d (q+1) (iC l t k d z2::H))∧DD l t d h r z2∧Ir l r z z2∧dC (fun S=>okB l t d h D ((40-r:Nat):Int) S && pA l t d h r (D+S)) (2 ^ l)=false) ∨
  (exec (bA (n+1) 44 72) (.block 0 (.loop (part Try.f44 [1,1,1,1,1,1,1,0,1,0,0]))) (qS q l h (D:Nat) ((40-r:Nat):Int) ((D*41+(40-r):Nat):Int) ((0:Nat):Int)) (Lv l t k d (q+1) (iC l t k d z::H))=some (.ret,y)∧∃ z2,y=([(10,.bool true)],Lv l t k d (q+1) (iC l t k d (c7 z2 (D*41+(40-r)) (Int.ofNat 1))::H))∧DD l t d h r z2∧Ir l r z z2∧dC (fun S=>okB l t d h D ((40-r:Nat):Int) S && pA l t d h r (D+S)) (2 ^ l)=true):=by
 subst hk
 obtain ⟨p1,p2⟩:=uX k (by omega)
 have hpow:tS .i64 (Int.ofNat 1) (Int.ofNat k)=((2 ^ k:Nat):Int):=B7 (i:=k) (by omega)
 have hdis:=Ed k (by omega)
 generalize hP:2 ^ k=P at *
 refine Jj (n:=n+1) (f:=44) (nt:=72) (c:=part Try.f44 [1,1,1,1,1,1,1,0,1,0,0]) 0 (fun s fr G=>s≤P∧∃ zs,fr=qS q k h (D:Nat) ((40-r:Nat):Int) ((D*41+(40-r):Nat):Int) (s:Nat)∧G=Lv k t k d (q+1) (iC k t k d zs::H)∧DD k t d h r zs∧Ir k r z zs∧dC (fun S=>okB k t d h D ((40-r:Nat):Int) S && pA k t d h r (D+S)) s=false) _ _ P (by omega) ⟨Nat.zero_le _,z,rfl,rfl,hz,fun D' T _ _=>rfl,jx (fun j hj=>by omega)⟩ (fun s fr G hI=>?_)
 obtain ⟨hs,zs,rfl,rfl,hst,hkp,hno⟩:=hI
 by_cases hsP:s<P
 · have eand:ry .i64 ((s:Nat):Int) ((D:Nat):Int)=((s &&& D:Nat):Int):=AP (by omega) (by omega)
   have h80:∀ H,cd (n+1) (.fn 80) [dV k t k d,.int .i64 h,.int .i64 (D:Nat),.int .i64 (s:Nat),.int .i64 ((40-r:Nat):Int)] H=some (.bool (!dC (Ad k t d h D s ((40-r:Nat):Int)) k),H):=fun H=>Pl n k k t d h D s _ H (by omega) rfl (by omega) (by omega)
   have eok:okB k t d h D ((40-r:Nat):Int) s=(decide (s &&& D=0) && !dC (Ad k t d h D s ((40-r:Nat):Int)) k):=rfl
   have eT:bf .i64 ((40-r:Nat):Int) (Int.ofNat 1)=((41-r:Nat):Int):=by rw[ft (j:=40-r) (by omega),show 40-r+1=41-r by omega]
   have eD:bf .i64 ((D:Nat):Int) ((s:Nat):Int)=((D+s:Nat):Int):=by rw[Cu (by omega) (by omega)];omega
   have e1:cF ((s:Nat):Int) ((P:Nat):Int)=true:=by rw[eH,decide_eq_true_eq];omega
   by_cases hand:s &&& D=0
   · have hDs:=hdis D (by omega) s (by omega) hand
     obtain ⟨z2,e44,st2,kp2⟩:=IH (D+s) zs hDs hst
     obtain ⟨x,hx,hQ⟩:=aO (Q:=fun x=>if (!dC (Ad k t d h D s ((40-r:Nat):Int)) k)=true then (if pA k t d h r (D+s)=true then x=(.ret,([(10,.bool true)],Lv k t k d (q+1) (iC k t k d (c7 z2 (D*41+(40-r)) (Int.ofNat 1))::H))) else x.1=.normal∧tidy (al (Lv k t k d (q+1) (iC k t k d z::H))) x.2.1 x.2.2=(qS q k h (D:Nat) ((40-r:Nat):Int) ((D*41+(40-r):Nat):Int) ((s+1:Nat):Int),Lv k t k d (q+1) (iC k t k d z2::H))) else x.1=.normal∧tidy (al (Lv k t k d (q+1) (iC k t k d z::H))) x.2.1 x.2.2=(qS q k h (D:Nat) ((40-r:Nat):Int) ((D*41+(40-r):Nat):Int) ((s+1:Nat):Int),Lv k t k d (q+1) (iC k t k d zs::H))) (t44 (n+1) q k k t d zs z2 h (D:Nat) ((40-r:Nat):Int) ((D*41+(40-r):Nat):Int) (s:Nat) (!dC (Ad k t d h D s ((40-r:Nat):Int)) k) (pA k t d h r (D+s)) H (by omega)) (bj _ (n+1) (iG (cL (aX _) h80) (fun x hy=>by rw[← Tr.ab hy,eD,eT];exact e44))) (af _ _) (ag _ _) (by
      rw[hpow,ft (j:=s) (by omega),eand,hand,e1]
      simp only[nj]
      generalize pA k t d h r (D+s)=B2 at *
      generalize (!dC (Ad k t d h D s ((40-r:Nat):Int)) k)=B1 at *
      have e0:dX (((0:Nat):Int)) (Int.ofNat 0)=true:=by rw[dB];rfl
      rw[e0]
      clear IH e44 st2 kp2 hst hkp hz hno hdis hP hpow h80 eok
      have hb:D*41+(40-r)<2624:=by omega
      generalize D*41+(40-r)=A at *
      cases B1<;>cases B2
      all_goals
       simp only[Bool.false_eq_true,if_false,if_true]
       repeat' first | (refine Tr.bn (fun hc=>?_) (fun hc=>?_)<;>(try simp (disch:=omega) only[nV,nW] at hc)<;>(try (exfalso;omega))) | (refine Tr.cj ?_ ?_;· ((try simp (disch:=omega) only[nV,nW]);try omega)) | (refine Tr.bg ?_ ?_;· first | exact trivial | rfl | exact ⟨rfl,rfl⟩ | exact ⟨trivial,rfl⟩ | exact ⟨rfl,by assumption⟩ | exact ⟨trivial,by assumption⟩ | exact ⟨rfl,rfl,rfl⟩ | (simp (disch:=omega) only[nV,nW];done) | ((try simp (disch:=omega) only[nV,nW]);omega)) | fail
       all_goals first
        | exact Tr.bc ⟨rfl,rfl⟩
        | exact Tr.bc rfl
        | fail
      )
     refine ⟨x,hx,?_⟩
     rw[decide_eq_true hand,Bool.true_and] at eok
     rw[← eok] at hQ
     by_cases ho:okB k t d h D ((40-r:Nat):Int) s=true
     · rw[if_pos ho] at hQ
       by_cases hf:pA k t d h r (D+s)=true
       · rw[if_pos hf] at hQ
         subst hQ
         refine .inr (.inr ⟨rfl,z2,rfl,st2,fun D' T' a b=>by rw[kp2 D' T' (by omega) b,hkp D' T' a b],(dY _ _).2 ⟨s,hsP,by rw[ho,hf];rfl⟩⟩)
       · rw[if_neg hf] at hQ
         refine .inl ⟨hQ.1,hsP,?_⟩
         rw[hQ.2]
         exact ⟨by omega,z2,rfl,rfl,st2,fun D' T' a b=>by rw[kp2 D' T' (by omega) b,hkp D' T' a b],by rw[vL,hno,ho];simpa using hf⟩
     · rw[if_neg ho] at hQ
       refine .inl ⟨hQ.1,hsP,?_⟩
       rw[hQ.2]
       exact ⟨by omega,zs,rfl,rfl,hst,hkp,by       rw[vL,hno];have:okB k t d h D ((40-r:Nat):Int) s=false:=by simpa using ho
                                                   rw[this];rfl⟩
   · obtain ⟨x,hx,hQ⟩:=aO (Q:=fun x=>x.1=.normal∧tidy (al (Lv k t k d (q+1) (iC k t k d z::H))) x.2.1 x.2.2=(qS q k h (D:Nat) ((40-r:Nat):Int) ((D*41+(40-r):Nat):Int) ((s+1:Nat):Int),Lv k t k d (q+1) (iC k t k d zs::H))) (Lx (n+1) q k k t d zs h (D:Nat) ((40-r:Nat):Int) ((D*41+(40-r):Nat):Int) (s:Nat) H (by omega)) (bj _ (n+1) (zg (zg (aX _)))) (af _ _) (ag _ _) (by
      have e0:dX ((s &&& D:Nat):Int) (Int.ofNat 0)=false:=by
       rw[dB]
       have:((s &&& D:Nat):Int)≠0:=by omega
       simpa using hand
      rw[hpow,ft (j:=s) (by omega),eand,e1,e0]
      clear IH hst hkp hz hno hdis hP hpow h80 eok
      generalize D*41+(40-r)=A at *
      exact wF
      )
     refine ⟨x,hx,.inl ⟨hQ.1,hsP,?_⟩⟩
     rw[hQ.2]
     exact ⟨by omega,zs,rfl,rfl,hst,hkp,by rw[vL,hno,eok,decide_eq_false hand];rfl⟩
 · have:s=P:=by omega
   subst this
   obtain ⟨x,hx,rfl⟩:=aO (Q:=fun x=>x=(.exit 0,qS q k h (D:Nat) ((40-r:Nat):Int) ((D*41+(40-r):Nat):Int) ((s:Nat):Int)++[(44,.bool false)],Lv k t k d (q+1) (iC k t k d zs::H))) (Lx (n+1) q k k t d zs h (D:Nat) ((40-r:Nat):Int) ((D*41+(40-r):Nat):Int) (s:Nat) H (by omega)) (bj _ (n+1) (zg (zg (aX _)))) (af _ _) (ag _ _) (by
    have e1:cF ((s:Nat):Int) ((s:Nat):Int)=false:=by rw[eH,decide_eq_false_iff_not];omega
    rw[hpow,e1]
    clear IH hst hkp hz hno hdis hP hpow
    generalize D*41+(40-r)=A at *
    exact wF
    )
   exact ⟨_,hx,.inr (.inl ⟨rfl,zs,rfl,hst,hkp,hno⟩)⟩
end
end Go.Eng
end
section
namespace Go.Eng
open Go.Proofs
section
variable (l k:Nat) (t d:Nat→Int) (h:Int)
theorem nN (z:Nat→Int) (a:Nat) (v:Int) (i:Nat):c7 z a v i=if i=a then v else z i:=by rw[kZ]
theorem Pe  (hl:l≤6) (hk:k=l):∀ (r n q D:Nat) (z:Nat→Int) (H:aa),r≤40→q+r=40→D<2 ^ l→DD l t d h r z →
 ∃ z',cd (n+r+2) (.fn 44) [dV l t k d,.int .i64 h,.int .i64 (D:Nat),.int .i64 ((41-r:Nat):Int),.slc q 1 0 0 1 2624 (some 2624)] (Lv l t k d q (iC l t k d z::H))=some (.bool (pA l t d h r D),Lv l t k d q (iC l t k d z'::H))∧DD l t d h r z'∧Ir l r z z':=by
 subst hk
 obtain ⟨p1,p2⟩:=uX k (by omega)
 have hpow:tS .i64 (Int.ofNat 1) (Int.ofNat k)=((2 ^ k:Nat):Int):=B7 (i:=k) (by omega)
 have hsub:cB .i64 ((2 ^ k:Nat):Int) (Int.ofNat 1)=((2 ^ k:Nat):Int)-1:=Aq (by show _≤((2 ^ k:Nat):Int)-1;generalize 2 ^ k=P at *;omega) (by show ((2 ^ k:Nat):Int)-1≤_;generalize 2 ^ k=P at *;omega)
 intro r
 induction r with
 | zero =>
   intro n q D z H h1 h2 hD hz
   refine ⟨z,?_,hz,fun _ _ _ _=>rfl⟩
   have ef:pA k t d h 0 D=decide (D+1=2 ^ k):=rfl
   rw[ef]
   refine aR (n:=n+0+1) Try.func44 rfl rfl rfl (JV (n+0+1) q k k t d z h (D:Nat) ((41-0:Nat):Int) H (by omega)) (aB _) (aW (af _ _) Kc (fun x hx=>(Tr.ae hx).elim)) (ag _ _) ?_
   rw[hpow,hsub]
   generalize 2 ^ k=P at *
   by_cases c:D+1=P
   · rw[decide_eq_true c]
     exact wF
   · rw[decide_eq_false c]
     exact wF
 | succ r ih =>
   intro n q D z H h1 h2 hD hz
   have eT:(41-(r+1):Nat)=40-r:=by omega
   rw[eT]
   have ef:pA k t d h (r+1) D=(decide (D+1=2 ^ k) || dC (fun S=>okB k t d h D ((40-r:Nat):Int) S && pA k t d h r (D+S)) (2 ^ k)):=rfl
   have em:fg .i64 ((D:Nat):Int) (Int.ofNat 41)=((D*41:Nat):Int):=by
    rw[mA,show Int.ofNat 41=((41:Nat):Int) from rfl,← Int.natCast_mul]
    exact lq (by omega) (by generalize 2 ^ k=P at *;omega)
   have ea:bf .i64 ((D*41:Nat):Int) ((40-r:Nat):Int)=((D*41+(40-r):Nat):Int):=by
    rw[Cu (by omega) (by generalize 2 ^ k=P at *;omega),← Int.natCast_add]
   have hat:D*41+(40-r)<2624:=by generalize 2 ^ k=P at *;omega
   by_cases c0:D+1=2 ^ k
   · refine ⟨z,?_,hz,fun _ _ _ _=>rfl⟩
     rw[ef,decide_eq_true c0,Bool.true_or]
     refine aR (n:=n+(r+1)+1) Try.func44 rfl rfl rfl (JV (n+(r+1)+1) q k k t d z h (D:Nat) ((40-r:Nat):Int) H (by omega)) (aB _) (aW (af _ _) Kc (fun x hx=>(Tr.ae hx).elim)) (ag _ _) ?_
     rw[hpow,hsub,em,ea]
     generalize 2 ^ k=P at *
     generalize D*41+(40-r)=A at *
     exact wF
   · by_cases c1:z (D*41+(40-r))=0
     · have st0:DD k t d h r (c7 z (D*41+(40-r)) (Int.ofNat 2)):=fun D' T' a b c=>by
        rw[nN,if_neg (by omega)]
        exact hz D' T' a (by omega) c
       obtain ⟨y,hy⟩:=Q4 k k t d h (n+r+1) q r D (c7 z (D*41+(40-r)) (Int.ofNat 2)) H hl rfl (by omega) hD st0 (fun D' z' a b=>by
        have:=ih n (q+1) D' z' H (by omega) (by omega) a b
        exact this)
       have fin:∀ z2,DD k t d h r z2→Ir k r (c7 z (D*41+(40-r)) (Int.ofNat 2)) z2→∀ v:Int,((v=1∧pA k t d h (r+1) D=true)∨(v=2∧pA k t d h (r+1) D=false))→DD k t d h (r+1) (c7 z2 (D*41+(40-r)) v)∧Ir k (r+1) z (c7 z2 (D*41+(40-r)) v):=fun z2 a b v hv=>by
        refine ⟨fun D' T' q1 q2 q3=>?_,fun D' T' q1 q2=>?_⟩
        · rw[nN]
          by_cases e:D'*41+T'=D*41+(40-r)
          · have e1:D'=D:=by omega
            have e2:T'=40-r:=by omega
            subst e1;subst e2
            rw[if_pos rfl,show 41-(40-r)=r+1 by omega]
            exact .inr hv
          · rw[if_neg e]
            by_cases e2:T'=40-r
            · rw[b D' T' q1 (by omega),nN,if_neg e]
              exact hz D' T' q1 q2 q3
            · exact a D' T' q1 (by omega) q3
        · rw[nN,if_neg (by omega),b D' T' q1 (by omega),nN,if_neg (by omega)]
       rcases hy with ⟨hx,z2,rfl,st2,kp2,hn⟩ | ⟨hx,z2,rfl,st2,kp2,hn⟩
       · have hfe:pA k t d h (r+1) D=false:=by rw[ef,decide_eq_false c0,hn];rfl
         obtain ⟨f1,f2⟩:=fin z2 st2 kp2 2 (.inr ⟨rfl,hfe⟩)
         have e2:c7 z2 (D*41+(40-r)) 2=z2:=by
          funext i
          rw[nN]
          by_cases e:i=D*41+(40-r)
          · rw[if_pos e,e,kp2 D (40-r) hD (by omega),nN,if_pos rfl];rfl
          · rw[if_neg e]
         rw[e2] at f1 f2
         refine ⟨z2,?_,f1,f2⟩
         rw[hfe]
         refine aR (n:=n+r+2) Try.func44 rfl rfl rfl (OU (n+r+2) q k k t d z (fun _=>0) z2 h (D:Nat) ((40-r:Nat):Int) ((2 ^ k:Nat):Int) false H (by omega)) (aB _) (aW (af _ _) Kc (fun x hy=>by
          rw[em,ea] at hy
          rw[em,ea,nj]
          have:=Tr.ff hy
          rcases this with ⟨a,_⟩ | ⟨_,b⟩
          · cases a
          · rw[← Tr.ab b];exact hx)) (ag _ _) ?_
         rw[hpow,hsub,em,ea]
         simp only[nj]
         clear hx st0 st2 kp2 f1 f2 fin ih hz ef hfe hn
         generalize 2 ^ k=P at *
         generalize D*41+(40-r)=A at *
         exact wF
       · have hfe:pA k t d h (r+1) D=true:=by rw[ef,hn];simp
         obtain ⟨f1,f2⟩:=fin z2 st2 kp2 1 (.inl ⟨rfl,hfe⟩)
         refine ⟨_,?_,f1,f2⟩
         rw[hfe]
         refine aR (n:=n+r+2) Try.func44 rfl rfl rfl (OU (n+r+2) q k k t d z (c7 z2 (D*41+(40-r)) 1) z2 h (D:Nat) ((40-r:Nat):Int) ((2 ^ k:Nat):Int) true H (by omega)) (aB _) (aW (af _ _) Kc (fun x hy=>by
          rw[em,ea] at hy
          rw[em,ea,nj]
          have:=Tr.ff hy
          rcases this with ⟨_,b⟩ | ⟨a,_⟩
          · rw[← Tr.ab b];exact hx
          · cases a)) (ag _ _) ?_
         rw[hpow,hsub,em,ea]
         simp only[nj]
         clear hx st0 st2 kp2 f1 f2 fin ih hz ef hfe hn
         generalize 2 ^ k=P at *
         generalize D*41+(40-r)=A at *
         exact wF
     · refine ⟨z,?_,hz,fun _ _ _ _=>rfl⟩
       have hv:=hz D (40-r) hD (by omega) (by omega)
       rw[show 41-(40-r)=r+1 by omega] at hv
       have hb:dX (z (D*41+(40-r))) (Int.ofNat 1)=pA k t d h (r+1) D:=by
        rcases hv with hv | ⟨a,b⟩ | ⟨a,b⟩
        · exact absurd hv c1
        · rw[a,b,dB];rfl
        · rw[a,b,dB];rfl
       rw[← hb]
       refine aR (n:=n+(r+1)+1) Try.func44 rfl rfl rfl (JV (n+(r+1)+1) q k k t d z h (D:Nat) ((40-r:Nat):Int) H (by omega)) (aB _) (aW (af _ _) Kc (fun x hx=>(Tr.ae hx).elim)) (ag _ _) ?_
       rw[hpow,hsub,em,ea]
       simp only[nj]
       clear hb hv ih hz ef
       generalize 2 ^ k=P at *
       generalize D*41+(40-r)=A at *
       exact wF
end
end Go.Eng
end
