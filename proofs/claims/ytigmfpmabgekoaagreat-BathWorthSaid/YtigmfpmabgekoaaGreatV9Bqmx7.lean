/- Bath: many, Most. -/
import Derived.Test.YtigmfpmabgekoaaGreatV9Bqfx7
import Derived.Test.YtigmfpmabgekoaaGreatV9Bq4x7
import Derived.Test.YtigmfpmabgekoaaGreatV9EngPostx6
import Derived.Test.YtigmfpmabgekoaaGreatV9Bp1x7
import Derived.Test.YtigmfpmabgekoaaGreatV9Ba3x25
set_option linter.unusedVariables false
set_option linter.unusedSimpArgs false
set_option maxRecDepth 100000
section
namespace Go.Eng
open Go.Proofs
def jA (l:Nat) (z:Nat→Int) (q:Int):Int:=if bD l z≠0 then bD l z else if q<0∨14<q then 2 else 0
noncomputable def tL (l:Nat) (z:Nat→Int) (q:Int):AV:=if jA l z q=0 then .tup [oO l (oY z l),.int .i64 0] else .tup [.nilp,.int .i64 (jA l z q)]
theorem Kk {l:Nat} {z:Nat→Int} {q:Int} (h:jA l z q=0):bD l z=0∧0≤q∧q≤14:=by
 unfold jA at h
 split at h
 · rename_i h1;exact absurd h h1
 · rename_i h1
   split at h
   · cases h
   · exact ⟨Classical.byContradiction h1,by omega,by omega⟩
theorem oj {l:Nat} {z:Nat→Int} {q:Int} (h:bD l z=0) (h0:0≤q) (h1:q≤14):jA l z q=0:=by
 unfold jA
 rw[if_neg (fun x=>x h),if_neg (by omega)]
theorem Ol (n l:Nat) (z:Nat→Int) (q:Int) (H:aa):cd (n+11) (.fn 78) [ay 5 l z,.int .i64 q] H=some (tL l z q,H):=by
 have hc:∀ H,cd (n+10) (.fn 52) [ay 5 l z] H=some (qV l z,H):=fun H=>Ob _ l z H
 unfold tL
 by_cases h:bD l z=0
 · have ho:qV l z=.tup [oO l (oY z l),.int .i64 0]:=by unfold qV;rw[if_pos h];rfl
   rw[ho] at hc
   refine aX (n:=n+10) Tryz.func78 rfl rfl rfl (Uq (n+10) l z (oY z l) q H) (cg _ _ (bZ (aO _) hc)) (af _ _) (ag _ _) ?_
   by_cases hq:q<0∨14<q
   · rw[show jA l z q=2 by unfold jA;rw[if_neg (fun x=>x h),if_pos hq],if_neg (by decide)]
     repeat' first | (refine Tr.al (fun hc=>?_) (fun hc=>?_)<;>(try simp (disch:=omega) only[nV,nW] at hc)<;>(try (exfalso;omega))) | (refine Tr.bj ?_ ?_;· ((try simp (disch:=omega) only[nV,nW]);try omega)) | (refine Tr.aB ?_ ?_;· first | exact trivial | rfl | exact ⟨rfl,rfl⟩ | exact ⟨trivial,rfl⟩ | exact ⟨rfl,by assumption⟩ | exact ⟨trivial,by assumption⟩ | exact ⟨rfl,rfl,rfl⟩ | (simp (disch:=omega) only[nV,nW];done) | ((try simp (disch:=omega) only[nV,nW]);omega)) | fail
     all_goals first
      | exact Tr.ao ⟨rfl,rfl⟩
      | omega
      | fail
   · rw[show jA l z q=0 by unfold jA;rw[if_neg (fun x=>x h),if_neg hq],if_pos rfl]
     repeat' first | (refine Tr.al (fun hc=>?_) (fun hc=>?_)<;>(try simp (disch:=omega) only[nV,nW] at hc)<;>(try (exfalso;omega))) | (refine Tr.bj ?_ ?_;· ((try simp (disch:=omega) only[nV,nW]);try omega)) | (refine Tr.aB ?_ ?_;· first | exact trivial | rfl | exact ⟨rfl,rfl⟩ | exact ⟨trivial,rfl⟩ | exact ⟨rfl,by assumption⟩ | exact ⟨trivial,by assumption⟩ | exact ⟨rfl,rfl,rfl⟩ | (simp (disch:=omega) only[nV,nW];done) | ((try simp (disch:=omega) only[nV,nW]);omega)) | fail
     all_goals first
      | exact Tr.ao ⟨rfl,rfl⟩
      | omega
      | fail
 · have ho:qV l z=.tup [.nilp,.int .i64 (bD l z)]:=by unfold qV;rw[if_neg h]
   rw[ho] at hc
   rw[show jA l z q=bD l z by unfold jA;rw[if_pos h],if_neg h]
   refine aX (n:=n+10) Tryz.func78 rfl rfl rfl (QW (n+10) l z q (bD l z) H) (cg _ _ (bZ (aO _) hc)) (af _ _) (ag _ _) ?_
   exact wF
noncomputable def mX (l:Nat) (z:Nat→Int) (K:Nat):Int×List Int:=@dite _ (bD l z=0∧K≤15) (Classical.propDecidable _) (fun hh=>Classical.choose (Ro (K:=K) hh.1 hh.2)) (fun _=>(0,[]))
theorem mK {l K:Nat} {z:Nat→Int} (h:bD l z=0) (hK:K≤15):Mo l z K (mX l z K).1 (mX l z K).2∧∀ (n s:Nat) (k1 k2 k3:Bool) (b1 b2 b3:List (Nat×aj)),cd (n+9) (.fn 79) [fT s l (oY z l),.int .i64 (K:Int)] [⟨k1,b1⟩,⟨k2,b2⟩,⟨k3,b3⟩]=some (.tup [.int .i64 (mX l z K).1,dA (mX l z K).2],[⟨k1,b1⟩,⟨k2,b2⟩,⟨k3,b3⟩]):=by
 unfold mX
 rw[dif_pos ⟨h,hK⟩]
 exact Classical.choose_spec (Ro (K:=K) h hK)
noncomputable def L7 (l:Nat) (z:Nat→Int) (q:Int):AV:=if jA l z q=0 then .tup [.int .i64 (mX l z q.toNat).1,dA (mX l z q.toNat).2,.int .i64 0] else .tup [.int .i64 0,.nils,.int .i64 (jA l z q)]
theorem Fj {c:Nat} {t:l9} {B W:AV} {q M:Int} (ht:t.Ok (cd c)) (h:∀ k1 k2 k3 b1 b2 b3,cd c (.fn 79) [B,.int .i64 q] [⟨k1,b1⟩,⟨k2,b2⟩,⟨k3,b3⟩]=some (.tup [.int .i64 M,W],[⟨k1,b1⟩,⟨k2,b2⟩,⟨k3,b3⟩])):(dI t 79 (NI B W q M)).Ok (cd c):=by
 refine gh ht (fun args H x hx=>?_)
 unfold NI at hx
 split at hx
 · obtain ⟨rfl,h2⟩:=Tr.cW hx
   rw[← Tr.ab h2]
   exact h _ _ _ _ _ _
 · exact (Tr.ae hx).elim
theorem N8 (n l:Nat) (z:Nat→Int) (q:Int) (k1 k2:Bool) (b1 b2:List (Nat×aj)):cd (n+12) (.fn 36) [ay 5 l z,.int .i64 q] [⟨k1,b1⟩,⟨k2,b2⟩]=some (L7 l z q,[⟨k1,b1⟩,⟨k2,b2⟩]):=by
 have hc:∀ H,cd (n+11) (.fn 78) [ay 5 l z,.int .i64 q] H=some (tL l z q,H):=fun H=>Ol n l z q H
 unfold L7
 by_cases h:jA l z q=0
 · obtain ⟨h1,h2,h3⟩:=Kk h
   obtain ⟨hm,h79⟩:=mK (K:=q.toNat) h1 (by omega)
   have ho:tL l z q=.tup [oO l (oY z l),.int .i64 0]:=by unfold tL;rw[if_pos h]
   rw[ho] at hc
   rw[if_pos h]
   rw[show ((q.toNat:Nat):Int)=q by omega] at h79
   generalize (mX l z q.toNat).1=M at *
   generalize (mX l z q.toNat).2=B at *
   cases B with
   | nil =>
     refine aX (n:=n+11) Tryz.func36 rfl rfl rfl (QM (n+11) l z (oY z l) q M k1 k2 b1 b2) (cg _ _ (Fj (bZ (aO _) hc) (fun k1 k2 k3 b1 b2 b3=>h79 (n+2) 0 k1 k2 k3 b1 b2 b3))) (af _ _) (ag _ _) ?_
     exact wF
   | cons a r =>
     refine aX (n:=n+11) Tryz.func36 rfl rfl rfl (QK (n+11) l (r.length+1) z (oY z l) (bn (a::r)) q M k1 k2 b1 b2) (cg _ _ (Fj (bZ (aO _) hc) (fun k1 k2 k3 b1 b2 b3=>h79 (n+2) 0 k1 k2 k3 b1 b2 b3))) (af _ _) (ag _ _) ?_
     exact wF
 · have ho:tL l z q=.tup [.nilp,.int .i64 (jA l z q)]:=by unfold tL;rw[if_neg h]
   rw[ho] at hc
   rw[if_neg h]
   refine aX (n:=n+11) Tryz.func36 rfl rfl rfl (QL (n+11) l z q (jA l z q) [⟨k1,b1⟩,⟨k2,b2⟩]) (cg _ _ (bZ (aO _) hc)) (af _ _) (ag _ _) ?_
   exact wF
end Go.Eng
end
section
namespace Go.Eng
open Go.Proofs
end Go.Eng
end
section
namespace Go.Eng
open Go.Proofs
end Go.Eng
end
section
namespace Go.Eng
open Go.Proofs
def chain:List Code→Code
 | []=>.skip
 | [c]=>c
 | c::r=>.seq c (chain r)
noncomputable def Lm (fn:Func) (H:aa) (fr:av) (l:bx):Option (AV×aa) :=
 match eS Tryz.prog fr (l::H) fn.results.toList with
 | some vs=>some (cX l.bs 5 (one vs),H)
 | none=>none
theorem GX {cx:Cx} {a b:Code} {r:List Code} {fr fr2:av} {H H2:aa} (h:exec cx a fr H=some (.normal,fr2,H2)):exec cx (chain (a::b::r)) fr H=exec cx (chain (b::r)) fr2 H2:=by
 show exec cx (.seq a (chain (b::r))) fr H=_
 simp only[exec,h]
theorem JF {cx:Cx} {a b:Code} {r:List Code} {fr:av} {H:aa} {x:av×aa} (h:exec cx a fr H=some (.ret,x)):exec cx (chain (a::b::r)) fr H=some (.ret,x):=by
 show exec cx (.seq a (chain (b::r))) fr H=_
 simp only[exec,h]
theorem kZ {cx:Cx} {c:Code} {r:List Code}:∀ (a:List Code) {fr fr2:av} {H H2:aa},a≠[]→exec cx (chain a) fr H=some (.normal,fr2,H2)→exec cx (chain (a++c::r)) fr H=exec cx (chain (c::r)) fr2 H2
 | [],_,_,_,_,h,_=>absurd rfl h
 | [a],_,_,_,_,_,h=>GX h
 | a :: b::l,fr,fr2,H,H2,_,h=>by
   have h:exec cx (.seq a (chain (b::l))) fr H=some (.normal,fr2,H2):=h
   show exec cx (.seq a (chain (b::l++c::r))) fr H=_
   simp only[exec] at h ⊢
   cases e:exec cx a fr H with
   | none=>rw[e] at h;cases h
   | some x =>
     obtain ⟨x,f3,H3⟩:=x
     rw[e] at h
     cases x with
     | normal=>exact kZ (b::l) (by simp) h
     | _=>cases h
theorem BQ {cx:Cx} {c:Code} {r:List Code}:∀ (a:List Code) {fr:av} {H:aa} {y:av×aa},a≠[]→exec cx (chain a) fr H=some (.ret,y)→exec cx (chain (a++c::r)) fr H=some (.ret,y)
 | [],_,_,_,h,_=>absurd rfl h
 | [a],_,_,_,_,h=>JF h
 | a :: b::l,fr,H,y,_,h=>by
   have h:exec cx (.seq a (chain (b::l))) fr H=some (.ret,y):=h
   show exec cx (.seq a (chain (b::l++c::r))) fr H=_
   simp only[exec] at h ⊢
   cases e:exec cx a fr H with
   | none=>rw[e] at h;cases h
   | some x =>
     obtain ⟨x,f3,H3⟩:=x
     rw[e] at h
     cases x with
     | normal=>exact BQ (b::l) (by simp) h
     | ret=>exact h
     | _=>cases h
theorem GV {f:FuncId} {fn:Func} {c:Code} {n:Nat} (hf:Tryz.prog.funcs[f]?=some fn) (hb:fn.body=some c) (hn:Ko f=false) {args:List AV} (hle:Nat.ble args.length fn.ntmps=true) {H:aa} {fr:av} {l:bx} {v:AV} (h:exec (bu n f fn.ntmps) c (dX 0 args) (an::H)=some (.ret,fr,l::H)) (hv:Lm fn H fr l=some (v,H)):cd (n+1) (.fn f) args H=some (v,H):=by
 have ho:=A3 f hn (cd n) args H
 unfold cd at ho ⊢
 have h:exec ⟨Tryz.prog,cS Tryz.prog nE KtB.kt 100000 n,100000,f,fn.ntmps,KtB.kt f,none⟩ c (dX 0 args) (⟨false,[]⟩::H)=some (.ret,fr,l::H):=h
 simp only[cS,ho,hf,hb,hle,if_true,h]
 exact hv
end Go.Eng
end
section
namespace Go.Eng
open Go.Proofs
noncomputable def T9 (l:Nat) (o:Nat→Int):Nat×aj:=(0,.row (.M [.arr .i64 o l]))
noncomputable def ke (s l:Nat) (y:Nat→Int) (lam:Int) (N:Nat) (o:Nat→Int) (bs:List (Nat×aj)):bx:=⟨false,(0,.row (.G [fT (s+1) l y]))::(0,.row (.I .i64 [lam]))::T9 N o::(0,.row (.G [.slc 0 2 0 0 1 N (some N)]))::bs⟩
noncomputable def u9 (l:Nat) (y:Nat→Int) (j:Int):av:=[(2,.ptr 0 0 0 0),(3,.ptr 0 1 0 0),(5,.ptr 0 3 0 0),(25,ay 7 l y),(26,.int .i64 (Int.ofNat l)),(27,.int .i64 j)]
noncomputable def oP (s l:Nat) (y:Nat→Int):Nat×aj:=(0,.row (.G [.fn (.func 56) [fT (s+1) l y] []]))
noncomputable def jc (m:Nat→Int):bx:=⟨false,[(0,.row (.M [.arr .i64 m 14]))]⟩
noncomputable def Df (e:Nat):AV:=.fn (.func 95) [] [.ptr e 0 0 0,.ptr (e+2) 3 0 0,.ptr (e+2) 0 0 0]
noncomputable def pC (m:Nat) (g:Nat→Int) (i j:Int):av:=[(1,Df 1),(5,.int .i64 i),(12,.slcT none (.M [.arr .i64 (nQ g 1) (eD m 1)]) 1 (eD m 1) false),(13,.int .i64 (Int.ofNat (eD m 1))),(14,.int .i64 j)]
noncomputable def NJ (K:Int→Int) (Q:Int→Prop) (G:aa) (args:List AV) (H:aa):Tr (AV×aa) :=
 match args with
 | [.int .i64 q,.ptr 1 0 0 0,.ptr 3 3 0 0,.ptr 3 0 0 0]=>.reqP (Q q∧H=G) (.ok (.int .i64 (K q),G))
 | _=>.bad
theorem Ux (n s l N:Nat) (y m o:Nat→Int) (q lam:Int) (bs:List (Nat×aj)) (H:aa):bt Tryz.prog (cd n) 100000 95 Tryz.f95 (KtB.kt 95) (il aI n 0) aP aQ [(.int .i64 q,none),(.ptr 1 0 0 0,none),(.ptr 3 3 0 0,none),(.ptr 3 0 0 0,none)] (an::jc m::an::ke s l y lam N o bs::H) =
 (fun (Z0:bx)=>((fun (Z1:bx)=>Tr.req (cU q 14) (Tr.req (dS 0 0) (Tr.req (bB (aw 0 q 1) 14) (Tr.ite (c5 (m (aw 0 q 1)) (Int.ofNat 0)) (Tr.ok ((AV.int .i64 (Int.ofNat 10001),some 1),an::Z1::an::Z0::H)) (Tr.req (cU q N) (Tr.req (dS 0 0) (Tr.req (bB (aw 0 q 1) N) (Tr.ite (c5 (o (aw 0 q 1)) (Int.ofNat 0)) (Tr.ok ((AV.int .i64 (Int.ofNat 10001),some 1),an::Z1::an::Z0::H)) (Tr.req (cU q l) (Tr.req (bB (ak (ak (aw 0 q 7) 5) 1) (aH l 7)) (Tr.ok ((AV.int .i64 (FI IntKind.i64 (y (ak (ak (aw 0 q 7) 5) 1))),none),an::Z1::an::Z0::H)))))))))))) { lock:=false,bs:=[(0,aj.row (Row.M [aM.arr .i64 m 14]))] })) { lock:=false,bs:=(0,aj.row (Row.G [AV.ptrT (some (Nat.succ s)) (Row.G [ay 7 l y]) 0]))::(0,aj.row (Row.I .i64 [lam]))::(0,aj.row (Row.M [aM.arr .i64 o N]))::(0,aj.row (Row.G [AV.slc 0 2 0 0 1 N (some N)]))::bs }:=by kernel_rfl
theorem Nd (n m:Nat) (g:Nat→Int) (K:Int→Int) (Q:Int→Prop) (H:aa) (i j:Int):aK (bu n 85 28) (il (dI aI 95 (NJ K Q (an::H))) n 0) aP aQ (part Tryz.f85 [1,1,0,1,0,0]) (hints (pC m g i j)) (an::H) =
 (fun (Z0:Nat×AV×Option Nat)=>((fun (Z1:Nat×AV×Option Nat)=>Tr.ite (cn j (Int.ofNat (eD m 1))) (Tr.req (cU j (eD m 1)) (Tr.req (bB (aw 0 j 1) (eD m 1)) (Tr.reqP (Q (nQ g 1 (aw 0 j 1))∧an::H=an::H) (Tr.reqP (Q i∧an::H=an::H) (Tr.ite (cn (K (nQ g 1 (aw 0 j 1))) (K i)) (Tr.ok (Ex.normal,[Z1,(5,AV.int .i64 (nQ g 1 (aw 0 j 1)),none),Z0,(13,AV.int .i64 (Int.ofNat (eD m 1)),none),(14,AV.int .i64 (aS .i64 j (Int.ofNat 1)),none)],an::H)) (Tr.ok (Ex.normal,[Z1,(5,AV.int .i64 i,none),Z0,(13,AV.int .i64 (Int.ofNat (eD m 1)),none),(14,AV.int .i64 (aS .i64 j (Int.ofNat 1)),none)],an::H))))))) (Tr.ok (Ex.exit 0,[Z1,(5,AV.int .i64 i,none),Z0,(13,AV.int .i64 (Int.ofNat (eD m 1)),none),(14,AV.int .i64 j,none),(15,AV.bool false,some 1)],an::H))) (1,AV.fn (Fn.func 95) [] [AV.ptr 1 0 0 0,AV.ptr 3 3 0 0,AV.ptr 3 0 0 0],none))) (12,AV.slcT none (Row.M [aM.arr .i64 (nQ g 1) (eD m 1)]) 1 (eD m 1) false,none):=by kernel_rfl
theorem Q0 (n m:Nat) (g:Nat→Int) (i:Int) (H:aa):bt Tryz.prog (cd n) 100000 85 Tryz.f85 (KtB.kt 85) (il aI n 0) (dJ aP 0 (pC m g (g 0) 0) (an::H) (.ok (.normal,hints (pC m g i (Int.ofNat (eD m 1))++[(15,.bool false)]),an::H))) aQ [(bc m g false,none),(Df 0,none)] H =
 Tr.req (cU (Int.ofNat 0) m) (Tr.req (bB 0 m) (Tr.req (nX (Int.ofNat 1) m) (Tr.req (ju (ak (fc (Int.ofNat 1)) (eD m (fc (Int.ofNat 1)))) m) (Tr.reqP ([(1,AV.fn (Fn.func 95) [] [AV.ptr 1 0 0 0,AV.ptr 3 3 0 0,AV.ptr 3 0 0 0]),(5,AV.int .i64 (g 0)),(12,AV.slcT none (Row.M [aM.arr .i64 (nQ g (fc (Int.ofNat 1))) (eD m (fc (Int.ofNat 1)))]) 1 (eD m (fc (Int.ofNat 1))) false),(13,AV.int .i64 (Int.ofNat (eD m (fc (Int.ofNat 1))))),(14,AV.int .i64 (Int.ofNat 0))]=[(1,AV.fn (Fn.func 95) [] [AV.ptr 1 0 0 0,AV.ptr 3 3 0 0,AV.ptr 3 0 0 0]),(5,AV.int .i64 (g 0)),(12,AV.slcT none (Row.M [aM.arr .i64 (nQ g 1) (eD m 1)]) 1 (eD m 1) false),(13,AV.int .i64 (Int.ofNat (eD m 1))),(14,AV.int .i64 (Int.ofNat 0))]∧an::H=an::H) (Tr.ok ((AV.int .i64 i,none),H)))))):=by kernel_rfl
theorem MZ (n s l N:Nat) (y o:Nat→Int) (lam j:Int) (H:aa):aK (bu n 80 91) (il aI n 0) aP aQ (part Tryz.f80 [1,1,0,1,0,0]) (hints (u9 l y j)) (ke s l y lam N o []::H) =
 Tr.ite (cn j (Int.ofNat l)) (Tr.req (cU j l) (Tr.req (bB (aw 0 j 7) (aH l 7)) (Tr.req (bB (ak (aw 0 j 7) 1) (aH l 7)) (Tr.req (bB (ak (aw 0 j 7) 2) (aH l 7)) (Tr.req (bB (ak (aw 0 j 7) 3) (aH l 7)) (Tr.req (bB (ak (aw 0 j 7) 4) (aH l 7)) (Tr.req (bB (ak (aw 0 j 7) 5) (aH l 7)) (Tr.req (bB (ak (aw 0 j 7) 6) (aH l 7)) (Tr.req (cU j N) (Tr.req (dS 0 0) (Tr.req (bB (aw 0 j 1) N) (Tr.ok (Ex.normal,[(2,AV.ptr 0 0 0 0,none),(3,AV.ptr 0 1 0 0,none),(5,AV.ptr 0 3 0 0,none),(25,ay 7 l y,none),(26,AV.int .i64 (Int.ofNat l),none),(27,AV.int .i64 (aS .i64 j (Int.ofNat 1)),none)],{ lock:=false,bs:=[(0,aj.row (Row.G [AV.ptrT (some (Nat.succ s)) (Row.G [ay 7 l y]) 0])),(0,aj.row (Row.I .i64 [lam])),(0,aj.row (Row.M [aM.arr .i64 (fz o (aw 0 j 1) (y (ak (aw 0 j 7) 4))) N])),(0,aj.row (Row.G [AV.slc 0 2 0 0 1 N (some N)])),(0,aj.row (Row.I .i64 [y (aw 0 j 7),y (ak (aw 0 j 7) 1),y (ak (aw 0 j 7) 2),y (ak (aw 0 j 7) 3),y (ak (aw 0 j 7) 4),y (ak (aw 0 j 7) 5),y (ak (aw 0 j 7) 6)]))] } :: H))))))))))))) (Tr.ok (Ex.exit 0,[(2,AV.ptr 0 0 0 0,none),(3,AV.ptr 0 1 0 0,none),(5,AV.ptr 0 3 0 0,none),(25,ay 7 l y,none),(26,AV.int .i64 (Int.ofNat l),none),(27,AV.int .i64 j,none),(28,AV.bool false,some 1)],{ lock:=false,bs:=[(0,aj.row (Row.G [AV.ptrT (some (Nat.succ s)) (Row.G [ay 7 l y]) 0])),(0,aj.row (Row.I .i64 [lam])),(0,aj.row (Row.M [aM.arr .i64 o N])),(0,aj.row (Row.G [AV.slc 0 2 0 0 1 N (some N)]))] } :: H)):=by kernel_rfl
end Go.Eng
end
section
namespace Go.Eng
open Go.Proofs
theorem N2:∀ b,(0,b) ∈ aV (bM Tryz.f85)→b=.loop (part Tryz.f85 [1,1,0,1,0,0]):=fM (by kernel_rfl)
theorem Lg:∀ b,(0,b) ∈ aV (bM Tryz.f80)→b=.loop (part Tryz.f80 [1,1,0,1,0,0]):=fM (by kernel_rfl)
def nB (z m o:Nat→Int) (q:Int):Int:=if m q.toNat=0∨o q.toNat=0 then 10001 else-bG z q.toNat
def rK (K:Int→Int) (g:Nat→Int):Nat→Int
 | 0=>g 0
 | k+1=>if K (g (k+1))<K (rK K g k) then g (k+1) else rK K g k
theorem AW (K:Int→Int) (g:Nat→Int):∀ k,∃ j,j≤k∧rK K g k=g j
 | 0=>⟨0,by omega,rfl⟩
 | k+1=>by
   obtain ⟨j,h1,h2⟩:=AW K g k
   unfold rK
   split
   · exact ⟨k+1,by omega,rfl⟩
   · exact ⟨j,by omega,h2⟩
theorem Fx (K:Int→Int) (g:Nat→Int):∀ k j,j≤k→K (rK K g k)≤K (g j)
 | 0,j,h=>by
   obtain rfl:j=0:=by omega
   exact Int.le_refl _
 | k + 1,j,h=>by
   have ih:=Fx K g k
   unfold rK
   by_cases c:K (g (k+1))<K (rK K g k)
   · rw[if_pos c]
     by_cases e:j=k+1
     · subst e;exact Int.le_refl _
     · have:=ih j (by omega);omega
   · rw[if_neg c]
     by_cases e:j=k+1
     · subst e;omega
     · exact ih j (by omega)
theorem R6 (n s l:Nat) (z m o:Nat→Int) (q lam:Int) (bs:List (Nat×aj)) (H:aa) (h:bD l z=0) (h0:0≤q) (h1:q<l) :
 cd (n+1) (.fn 95) [.int .i64 q,.ptr 1 0 0 0,.ptr 3 3 0 0,.ptr 3 0 0 0] (an::jc m::an::ke s l (oY z l) lam l o bs::H)=some (.int .i64 (nB z m o q),an::jc m::an::ke s l (oY z l) lam l o bs::H):=by
 obtain ⟨hl,hz⟩:=bI h
 have hk:=hz q.toNat (by omega)
 have e1:aw 0 q 1=q.toNat:=by rw[bA];omega
 have e7:aw 0 q 7=q.toNat*7:=by rw[bA];omega
 have e8:=Mc l z q hl.2 ⟨h0,h1⟩
 have eh:oY z l (q.toNat*7+5+1)=bG z q.toNat:=by rw[← e8,e7]
 have en:FI .i64 (bG z q.toNat)=- bG z q.toNat:=by
  unfold bG;rw[Ct,cq (by omega) (by omega)];omega
 refine aX (n:=n) Tryz.func95 rfl rfl rfl (Ux n s l l (oY z l) m o q lam bs H) (aC _) (af _ _) (ag _ _) ?_
 rw[e1,e7]
 simp only[a7]
 rw[eh,en]
 unfold nB
 clear e1 e7 e8 eh en
 by_cases c1:m q.toNat=0
 · rw[if_pos (.inl c1),c1]
   exact wF
 · by_cases c2:o q.toNat=0
   · rw[if_pos (.inr c2),c2]
     generalize m q.toNat=a at *
     exact wF
   · rw[if_neg (by rintro (h | h)<;>contradiction)]
     generalize m q.toNat=a at *
     generalize o q.toNat=b at *
     exact wF
theorem JZ {n:Nat} {K:Int→Int} {Q:Int→Prop} {G:aa} (h:∀ q,Q q→cd n (.fn 95) [.int .i64 q,.ptr 1 0 0 0,.ptr 3 3 0 0,.ptr 3 0 0 0] G=some (.int .i64 (K q),G)):(dI aI 95 (NJ K Q G)).Ok (cd n):=by
 refine gh (aO _) (fun args H x hx=>?_)
 unfold NJ at hx
 split at hx
 · obtain ⟨⟨hq,rfl⟩,h2⟩:=Tr.cW hx
   rw[← Tr.ab h2]
   exact h _ hq
 · exact (Tr.ae hx).elim
theorem Om (n m:Nat) (g:Nat→Int) (K:Int→Int) (Q:Int→Prop) (H:aa) (hm:m≤1000) (hq:∀ j,j<m+1→Q (g j)) (hK:∀ q,Q q→cd n (.fn 95) [.int .i64 q,.ptr 1 0 0 0,.ptr 3 3 0 0,.ptr 3 0 0 0] (an::H)=some (.int .i64 (K q),an::H)) :
 cd (n+1) (.fn 85) [bc (m+1) g false,Df 0] H=some (.int .i64 (rK K g m),H):=by
 have e1:eD (m+1) 1=m:=by rw[jO];omega
 have hC:(il (dI aI 95 (NJ K Q (an::H))) n 0).Ok (cd n):=cg _ _ (JZ hK)
 have hx:exec (bu n 85 28) (.block 0 (.loop (part Tryz.f85 [1,1,0,1,0,0]))) (pC (m+1) g (g 0) 0) (an::H)=some (.normal,pC (m+1) g (rK K g m) (Int.ofNat (eD (m+1) 1))++[(15,.bool false)],an::H):=by
  refine jz 0 (fun j=>pC (m+1) g (rK K g j) (j:Nat)) (fun _=>an::H) m (pC (m+1) g (rK K g m) (Int.ofNat (eD (m+1) 1))++[(15,.bool false)],an::H) (by omega) (fun j hj=>?_) ?_
  · have ej:aS .i64 (j:Int) (Int.ofNat 1)=((j+1:Nat):Int):=iu (by omega)
    have ei:nQ g 1 (aw 0 (j:Int) 1)=g (j+1):=by rw[bA,KI];simp only[];congr 1;omega
    have eb:aw 0 (j:Int) 1=j:=by rw[bA];omega
    obtain ⟨k,hk,hkq⟩:=AW K g j
    have q1:=hq (j+1) (by omega)
    have q2:=hq k (by omega)
    rw[← hkq] at q2
    have hs:rK K g (j+1)=if K (g (j+1))<K (rK K g j) then g (j+1) else rK K g j:=rfl
    refine aE (Nd n (m+1) g K Q H (rK K g j) (j:Nat)) hC (af _ _) (ag _ _) ?_
    simp only[ei]
    rw[ej,eb,hs]
    clear hs ei eb ej hkq
    generalize g (j+1)=a at *
    generalize rK K g j=b at *
    by_cases hab:K a<K b
    · rw[if_pos hab]
      generalize K a=ka at *
      generalize K b=kb at *
      repeat' first | (refine Tr.al (fun hc=>?_) (fun hc=>?_)<;>(try simp (disch:=omega) only[nV,nW,e1] at hc)<;>(try (exfalso;omega))) | (refine Tr.bj ?_ ?_;· ((try simp (disch:=omega) only[nV,nW,e1]);try omega)) | (refine Tr.aB ?_ ?_;· first | exact trivial | rfl | exact ⟨rfl,rfl⟩ | exact ⟨trivial,rfl⟩ | exact ⟨rfl,by assumption⟩ | exact ⟨trivial,by assumption⟩ | exact ⟨rfl,rfl,rfl⟩ | (simp (disch:=omega) only[nV,nW,e1];done) | ((try simp (disch:=omega) only[nV,nW,e1]);omega)) | fail
      all_goals first
       | exact Tr.ao ⟨rfl,rfl⟩
       | fail
    · rw[if_neg hab]
      generalize K a=ka at *
      generalize K b=kb at *
      repeat' first | (refine Tr.al (fun hc=>?_) (fun hc=>?_)<;>(try simp (disch:=omega) only[nV,nW,e1] at hc)<;>(try (exfalso;omega))) | (refine Tr.bj ?_ ?_;· ((try simp (disch:=omega) only[nV,nW,e1]);try omega)) | (refine Tr.aB ?_ ?_;· first | exact trivial | rfl | exact ⟨rfl,rfl⟩ | exact ⟨trivial,rfl⟩ | exact ⟨rfl,by assumption⟩ | exact ⟨trivial,by assumption⟩ | exact ⟨rfl,rfl,rfl⟩ | (simp (disch:=omega) only[nV,nW,e1];done) | ((try simp (disch:=omega) only[nV,nW,e1]);omega)) | fail
      all_goals first
       | exact Tr.ao ⟨rfl,rfl⟩
       | fail
  · have em:((m:Nat):Int)=Int.ofNat (eD (m+1) 1):=by rw[e1];rfl
    show exec _ _ (pC (m+1) g (rK K g m) (m:Int)) _=_
    rw[em]
    obtain ⟨x,h1,rfl⟩:=aE (Q:=fun x=>x=(.exit 0,pC (m+1) g (rK K g m) (Int.ofNat (eD (m+1) 1))++[(15,.bool false)],an::H)) (Nd n (m+1) g K Q H (rK K g m) (Int.ofNat (eD (m+1) 1))) hC (af _ _) (ag _ _) (by
     refine Tr.al (fun hc=>?_) (fun hc=>Tr.ao rfl)
     simp (disch:=omega) only[nV,nW] at hc;omega)
    exact h1
 refine aX (n:=n) Tryz.func85 rfl rfl rfl (Q0 n (m+1) g (rK K g m) H) (aC _) (bg (af _ _) N2 (fun x h=>by rw[← Tr.ab h];simp only[dG.st,aF];exact hx)) (ag _ _) ?_
 rw[show fc (Int.ofNat 1)=1 from iA _]
 repeat' first | (refine Tr.al (fun hc=>?_) (fun hc=>?_)<;>(try simp (disch:=omega) only[nV,nW,e1] at hc)<;>(try (exfalso;omega))) | (refine Tr.bj ?_ ?_;· ((try simp (disch:=omega) only[nV,nW,e1]);try omega)) | (refine Tr.aB ?_ ?_;· first | exact trivial | rfl | exact ⟨rfl,rfl⟩ | exact ⟨trivial,rfl⟩ | exact ⟨rfl,by assumption⟩ | exact ⟨trivial,by assumption⟩ | exact ⟨rfl,rfl,rfl⟩ | (simp (disch:=omega) only[nV,nW,e1];done) | ((try simp (disch:=omega) only[nV,nW,e1]);omega)) | fail
 all_goals first
  | exact Tr.ao ⟨rfl,rfl⟩
  | fail
def sC (z:Nat→Int) (j i:Nat):Int:=if i<j then cF z i else 0
theorem PK (n s l:Nat) (z:Nat→Int) (lam:Int) (H:aa) (h:bD l z=0):exec (bu n 80 91) (.block 0 (.loop (part Tryz.f80 [1,1,0,1,0,0]))) (u9 l (oY z l) (Int.ofNat 0)) (ke s l (oY z l) lam l (fun x=>Int.ofNat 0) []::H)=some (.normal,u9 l (oY z l) (Int.ofNat l)++[(28,.bool false)],ke s l (oY z l) lam l (sC z l) []::H):=by
 obtain ⟨hl,hz⟩:=bI h
 have w0:(fun x=>Int.ofNat 0:Nat→Int)=sC z 0:=by funext x;exact (if_neg (by omega)).symm
 rw[w0]
 refine jz 0 (fun j=>u9 l (oY z l) (j:Nat)) (fun j=>ke s l (oY z l) lam l (sC z j) []::H) l (u9 l (oY z l) (Int.ofNat l)++[(28,.bool false)],ke s l (oY z l) lam l (sC z l) []::H) (by omega) (fun j hj=>?_) ?_
 · have ej:aS .i64 (j:Int) (Int.ofNat 1)=((j+1:Nat):Int):=iu (by omega)
   have e1:aw 0 (j:Int) 1=j:=by rw[bA];omega
   have e7:aw 0 (j:Int) 7=j*7:=by rw[bA];omega
   have ew:oY z l (j*7+4)=cF z j:=nK z (by omega) (by omega)
   have hs:fz (sC z j) j (cF z j)=sC z (j+1):=by
    rw[qf];funext i
    unfold sC
    by_cases c:i=j
    · rw[if_pos c,if_pos (by omega),c]
    · rw[if_neg c]
      by_cases c2:i<j
      · rw[if_pos c2,if_pos (by omega)]
      · rw[if_neg c2,if_neg (by omega)]
   refine aE (MZ n s l l (oY z l) (sC z j) lam (j:Nat) H) (aC n) (af _ _) (ag _ _) ?_
   rw[ej,e1,e7]
   simp only[a7]
   rw[ew,hs]
   clear hs ew e1 e7 ej w0
   generalize sC z (j+1)=o2
   generalize sC z j=o1
   exact wF
 · obtain ⟨x,h1,rfl⟩:=aE (Q:=fun x=>x=(.exit 0,u9 l (oY z l) (Int.ofNat l)++[(28,.bool false)],ke s l (oY z l) lam l (sC z l) []::H)) (MZ n s l l (oY z l) (sC z l) lam (Int.ofNat l) H) (aC n) (af _ _) (ag _ _) (by
    refine Tr.al (fun hc=>?_) (fun hc=>Tr.ao rfl)
    simp (disch:=omega) only[nV,nW] at hc;omega)
   exact h1
end Go.Eng
end
section
namespace Go.Eng
open Go.Proofs
noncomputable def IU (k:Nat) (P:Nat→Int) (x:Int):av:=[(2,.ptr 2 0 0 0),(3,.ptr 2 1 0 0),(5,.ptr 2 3 0 0),(8,.ptr 2 4 0 0),(42,qi 2 (bc k P false)),(43,.int .i64 x)]
noncomputable def IV (x:Int):av:=[(2,.ptr 2 0 0 0),(3,.ptr 2 1 0 0),(5,.ptr 2 3 0 0),(8,.ptr 2 4 0 0),(9,.int .i64 x)]
noncomputable def lT (m:Nat→Int) (a i:Int):av:=[(2,.ptr 2 0 0 0),(3,.ptr 2 1 0 0),(5,.ptr 2 3 0 0),(10,.ptr 0 0 0 0),(11,.int .i64 a),(47,.agg (.M [.arr .i64 m 14])),(48,.int .i64 i)]
noncomputable def Fe (a:Int):av:=[(2,.ptr 2 0 0 0),(3,.ptr 2 1 0 0),(5,.ptr 2 3 0 0),(10,.ptr 0 0 0 0),(11,.int .i64 a)]
noncomputable def LL (A:List AV) (V:AV) (G:aa) (args:List AV) (H:aa):Tr (AV×aa):=.reqP (args=A∧H=G) (.ok (V,G))
theorem QA (n k:Nat) (P:Nat→Int) (x:Int) (H:aa):aK (jy n 80 91 2 5) (il aI n 0) aP aQ (part Tryz.f80 [1,1,1,1,0,1,0,0]) (hints (IU k P x)) (an::an::H) =
 Tr.ok (Ex.normal,[(2,AV.ptr 2 0 0 0,none),(3,AV.ptr 2 1 0 0,none),(5,AV.ptr 2 3 0 0,none),(8,AV.ptr 2 4 0 0,none),(9,AV.int .i64 x,none)],an::an::H):=by kernel_rfl
theorem M7 (n s l N:Nat) (y m o:Nat→Int) (lam a i:Int) (L:dF) (H:aa):aK (jy n 80 91 2 5) (il aI n 0) aP aQ (part Tryz.f80 [1,1,1,1,0,1,0,1,0,0,1,1,0,1,0,0]) (hints (lT m a i)) (jc m::an::ke s l y lam N o [oP s l y,(0,.loop L)]::H) =
 (fun (Z0:bx)=>((fun (Z1:bx)=>Tr.ite (cn i (Int.ofNat 14)) (Tr.req (cU i 14) (Tr.req (bB (aw 0 i 1) 14) (Tr.ite (c5 (m (aw 0 i 1)) (Int.ofNat 1)) (Tr.req (cU i N) (Tr.req (dS 0 0) (Tr.req (bB (aw 0 i 1) N) (Tr.ok (Ex.normal,[(2,AV.ptr 2 0 0 0,none),(3,AV.ptr 2 1 0 0,none),(5,AV.ptr 2 3 0 0,none),(10,AV.ptr 0 0 0 0,none),(11,AV.int .i64 (aS .i64 a (o (aw 0 i 1))),none),(47,AV.agg (Row.M [aM.arr .i64 m 14]),none),(48,AV.int .i64 (aS .i64 i (Int.ofNat 1)),none)],Z1::an::Z0::H))))) (Tr.ok (Ex.normal,[(2,AV.ptr 2 0 0 0,none),(3,AV.ptr 2 1 0 0,none),(5,AV.ptr 2 3 0 0,none),(10,AV.ptr 0 0 0 0,none),(11,AV.int .i64 a,none),(47,AV.agg (Row.M [aM.arr .i64 m 14]),none),(48,AV.int .i64 (aS .i64 i (Int.ofNat 1)),none)],Z1::an::Z0::H))))) (Tr.ok (Ex.exit 4,[(2,AV.ptr 2 0 0 0,none),(3,AV.ptr 2 1 0 0,none),(5,AV.ptr 2 3 0 0,none),(10,AV.ptr 0 0 0 0,none),(11,AV.int .i64 a,none),(47,AV.agg (Row.M [aM.arr .i64 m 14]),none),(48,AV.int .i64 i,none),(49,AV.bool false,some 1)],Z1::an::Z0::H))) { lock:=false,bs:=[(0,aj.row (Row.M [aM.arr .i64 m 14]))] })) { lock:=false,bs:=[(0,aj.row (Row.G [AV.ptrT (some (Nat.succ s)) (Row.G [ay 7 l y]) 0])),(0,aj.row (Row.I .i64 [lam])),(0,aj.row (Row.M [aM.arr .i64 o N])),(0,aj.row (Row.G [AV.slc 0 2 0 0 1 N (some N)])),(0,aj.row (Row.G [AV.fn (Fn.func 56) [AV.ptrT (some (Nat.succ s)) (Row.G [ay 7 l y]) 0] []])),(0,aj.loop L)] }:=by kernel_rfl
theorem Qy (n s l N k:Nat) (y m o g:Nat→Int) (lam a q:Int) (L:dF) (H:aa):aK (jy n 80 91 2 5) (il (dI (tX aI 64 [fT (s+3) l y] (bc k g false)) 85 (LL [bc k g false,Df 0] (.int .i64 q) (jc m::an::ke s l y lam N o [oP s l y,(0,.loop L)]::H))) n 0) aP aQ (part Tryz.f80 [1,1,1,1,0,1,0,1,0,0,1,1,1,1,0,0]) (hints (Fe a)) (jc m::an::ke s l y lam N o [oP s l y,(0,.loop L)]::H) =
 (fun (Z0:bx)=>((fun (Z1:bx)=>((fun (Z2:List AV)=>Tr.ite (cn lam a) (Tr.reqP ([AV.ptrT (some (Nat.succ (Nat.succ (Nat.succ s)))) (Row.G [ay 7 l y]) 0]=[AV.ptrT (some (Nat.succ (Nat.succ (Nat.succ s)))) (Row.G [ay 7 l y]) 0]) (Tr.reqP (Z2=Z2∧Z1::an::Z0::H=Z1::an::Z0::H) (Tr.req (cU q 14) (Tr.req (dS 0 0) (Tr.req (bB (aw 0 q 1) 14) (Tr.ite (c5 (m (aw 0 q 1)) (Int.ofNat 0)) (Tr.ok (Ex.exit 6,[(2,AV.ptr 2 0 0 0,none),(3,AV.ptr 2 1 0 0,none),(5,AV.ptr 2 3 0 0,none),(10,AV.ptr 0 0 0 0,none),(11,AV.int .i64 a,none),(14,AV.int .i64 q,none),(71,AV.bool true,some 1)],Z1::an::Z0::H)) (Tr.req (cU q N) (Tr.req (dS 0 0) (Tr.req (bB (aw 0 q 1) N) (Tr.req (cU q N) (Tr.req (dS 0 0) (Tr.req (bB (aw 0 q 1) N) (Tr.req (cU q N) (Tr.req (dS 0 0) (Tr.req (bB (aw 0 q 1) N) (Tr.ok (Ex.normal,[(2,AV.ptr 2 0 0 0,none),(3,AV.ptr 2 1 0 0,none),(5,AV.ptr 2 3 0 0,none),(10,AV.ptr 0 0 0 0,none),(11,AV.int .i64 (bQ .i64 a (vk (o (aw 0 q 1)) (bQ .i64 a lam))),none)],Z1::an::{ lock:=false,bs:=[(0,aj.row (Row.G [AV.ptrT (some (Nat.succ s)) (Row.G [ay 7 l y]) 0])),(0,aj.row (Row.I .i64 [lam])),(0,aj.row (Row.M [aM.arr .i64 (fz o (aw 0 q 1) (bQ .i64 (o (aw 0 q 1)) (vk (o (aw 0 q 1)) (bQ .i64 a lam)))) N])),(0,aj.row (Row.G [AV.slc 0 2 0 0 1 N (some N)])),(0,aj.row (Row.G [AV.fn (Fn.func 56) [AV.ptrT (some (Nat.succ s)) (Row.G [ay 7 l y]) 0] []])),(0,aj.loop L)] } :: H))))))))))))))))) (Tr.ok (Ex.exit 6,[(2,AV.ptr 2 0 0 0,none),(3,AV.ptr 2 1 0 0,none),(5,AV.ptr 2 3 0 0,none),(10,AV.ptr 0 0 0 0,none),(11,AV.int .i64 a,none),(63,AV.bool false,some 1)],Z1::an::Z0::H))) [AV.slcT none (Row.M [aM.arr .i64 g k]) 1 k false,AV.fn (Fn.func 95) [] [AV.ptr 0 0 0 0,AV.ptr 2 3 0 0,AV.ptr 2 0 0 0]])) { lock:=false,bs:=[(0,aj.row (Row.M [aM.arr .i64 m 14]))] })) { lock:=false,bs:=[(0,aj.row (Row.G [AV.ptrT (some (Nat.succ s)) (Row.G [ay 7 l y]) 0])),(0,aj.row (Row.I .i64 [lam])),(0,aj.row (Row.M [aM.arr .i64 o N])),(0,aj.row (Row.G [AV.slc 0 2 0 0 1 N (some N)])),(0,aj.row (Row.G [AV.fn (Fn.func 56) [AV.ptrT (some (Nat.succ s)) (Row.G [ay 7 l y]) 0] []])),(0,aj.loop L)] }:=by kernel_rfl
theorem M8 (n s l N k:Nat) (y m o g:Nat→Int) (lam a q:Int) (L:dF) (H:aa):aK (jy n 80 91 2 5) (il (dI (tX aI 64 [fT (s+3) l y] (bc k g false)) 85 (LL [bc k g false,Df 0] (.int .i64 q) (jc m::an::ke s l y lam N o [oP s l y,(0,.loop L)]::H))) n 0) aP aQ (part Tryz.f80 [1,1,1,1,0,1,0,1,0,0,1,1,1,1,0,0]) (hints (lT m a (Int.ofNat 14)++[(49,.bool false)])) (jc m::an::ke s l y lam N o [oP s l y,(0,.loop L)]::H) =
 (fun (Z0:bx)=>((fun (Z1:bx)=>((fun (Z2:List AV)=>Tr.ite (cn lam a) (Tr.reqP ([AV.ptrT (some (Nat.succ (Nat.succ (Nat.succ s)))) (Row.G [ay 7 l y]) 0]=[AV.ptrT (some (Nat.succ (Nat.succ (Nat.succ s)))) (Row.G [ay 7 l y]) 0]) (Tr.reqP (Z2=Z2∧Z1::an::Z0::H=Z1::an::Z0::H) (Tr.req (cU q 14) (Tr.req (dS 0 0) (Tr.req (bB (aw 0 q 1) 14) (Tr.ite (c5 (m (aw 0 q 1)) (Int.ofNat 0)) (Tr.ok (Ex.exit 6,[(2,AV.ptr 2 0 0 0,none),(3,AV.ptr 2 1 0 0,none),(5,AV.ptr 2 3 0 0,none),(10,AV.ptr 0 0 0 0,none),(11,AV.int .i64 a,none),(14,AV.int .i64 q,none),(71,AV.bool true,some 1)],Z1::an::Z0::H)) (Tr.req (cU q N) (Tr.req (dS 0 0) (Tr.req (bB (aw 0 q 1) N) (Tr.req (cU q N) (Tr.req (dS 0 0) (Tr.req (bB (aw 0 q 1) N) (Tr.req (cU q N) (Tr.req (dS 0 0) (Tr.req (bB (aw 0 q 1) N) (Tr.ok (Ex.normal,[(2,AV.ptr 2 0 0 0,none),(3,AV.ptr 2 1 0 0,none),(5,AV.ptr 2 3 0 0,none),(10,AV.ptr 0 0 0 0,none),(11,AV.int .i64 (bQ .i64 a (vk (o (aw 0 q 1)) (bQ .i64 a lam))),none)],Z1::an::{ lock:=false,bs:=[(0,aj.row (Row.G [AV.ptrT (some (Nat.succ s)) (Row.G [ay 7 l y]) 0])),(0,aj.row (Row.I .i64 [lam])),(0,aj.row (Row.M [aM.arr .i64 (fz o (aw 0 q 1) (bQ .i64 (o (aw 0 q 1)) (vk (o (aw 0 q 1)) (bQ .i64 a lam)))) N])),(0,aj.row (Row.G [AV.slc 0 2 0 0 1 N (some N)])),(0,aj.row (Row.G [AV.fn (Fn.func 56) [AV.ptrT (some (Nat.succ s)) (Row.G [ay 7 l y]) 0] []])),(0,aj.loop L)] } :: H))))))))))))))))) (Tr.ok (Ex.exit 6,[(2,AV.ptr 2 0 0 0,none),(3,AV.ptr 2 1 0 0,none),(5,AV.ptr 2 3 0 0,none),(10,AV.ptr 0 0 0 0,none),(11,AV.int .i64 a,none),(63,AV.bool false,some 1)],Z1::an::Z0::H))) [AV.slcT none (Row.M [aM.arr .i64 g k]) 1 k false,AV.fn (Fn.func 95) [] [AV.ptr 0 0 0 0,AV.ptr 2 3 0 0,AV.ptr 2 0 0 0]])) { lock:=false,bs:=[(0,aj.row (Row.M [aM.arr .i64 m 14]))] })) { lock:=false,bs:=[(0,aj.row (Row.G [AV.ptrT (some (Nat.succ s)) (Row.G [ay 7 l y]) 0])),(0,aj.row (Row.I .i64 [lam])),(0,aj.row (Row.M [aM.arr .i64 o N])),(0,aj.row (Row.G [AV.slc 0 2 0 0 1 N (some N)])),(0,aj.row (Row.G [AV.fn (Fn.func 56) [AV.ptrT (some (Nat.succ s)) (Row.G [ay 7 l y]) 0] []])),(0,aj.loop L)] }:=by kernel_rfl
theorem Qz (n s l N:Nat) (y m o o2:Nat→Int) (lam x a a2:Int) (L:dF) (H:aa):aK (jy n 80 91 2 5) (il (tX aI 56 [fT (s+3) l y,.int .i64 x] (.agg (.M [.arr .i64 m 14]))) n 0) (dJ (dJ aP 4 (lT (ff (fun x=>Int.ofNat 0) 0 m 14) (Int.ofNat 0) (Int.ofNat 0)) (jc (ff (fun x=>Int.ofNat 0) 0 m 14)::an::ke s l y lam N o [oP s l y,(0,.loop L)]::H) (.ok (.normal,hints (lT (ff (fun x=>Int.ofNat 0) 0 m 14) a (Int.ofNat 14)++[(49,.bool false)]),jc (ff (fun x=>Int.ofNat 0) 0 m 14)::an::ke s l y lam N o [oP s l y,(0,.loop L)]::H))) 6 (lT (ff (fun x=>Int.ofNat 0) 0 m 14) a (Int.ofNat 14)++[(49,.bool false)]) (jc (ff (fun x=>Int.ofNat 0) 0 m 14)::an::ke s l y lam N o [oP s l y,(0,.loop L)]::H) (.ok (.normal,hints [(2,.ptr 2 0 0 0),(3,.ptr 2 1 0 0),(5,.ptr 2 3 0 0),(10,.ptr 0 0 0 0),(11,.int .i64 a2),(63,.bool false)],jc (ff (fun x=>Int.ofNat 0) 0 m 14)::an::ke s l y lam N o2 [oP s l y,(0,.loop L)]::H))) aQ (part Tryz.f80 [1,1,1,1,0,1,0,1]) (hints (IV x)) (an::an::ke s l y lam N o [oP s l y,(0,.loop L)]::H) =
 (fun (Z0:bx)=>((fun (Z1:Row)=>((fun (Z2:av)=>((fun (Z3:av)=>((fun (Z4:bx)=>((fun (Z5:List AV)=>Tr.reqP (Z5=Z5) (Tr.req (rF 0 14 0 14) (Tr.reqP (Z3=Z3∧Z4::an::Z0::H=Z4::an::Z0::H) (Tr.reqP (Z2=Z2∧Z4::an::Z0::H=Z4::an::Z0::H) (Tr.ok (Ex.normal,[(2,AV.ptr 2 0 0 0,none),(3,AV.ptr 2 1 0 0,none),(5,AV.ptr 2 3 0 0,none),(10,AV.ptr 0 0 0 0,none),(11,AV.int .i64 a2,none),(63,AV.bool false,none)],Z4::an::{ lock:=false,bs:=[(0,aj.row (Row.G [AV.ptrT (some (Nat.succ s)) (Row.G [ay 7 l y]) 0])),(0,aj.row (Row.I .i64 [lam])),(0,aj.row (Row.M [aM.arr .i64 o2 N])),(0,aj.row (Row.G [AV.slc 0 2 0 0 1 N (some N)])),(0,aj.row (Row.G [AV.fn (Fn.func 56) [AV.ptrT (some (Nat.succ s)) (Row.G [ay 7 l y]) 0] []])),(0,aj.loop L)] } :: H)))))) [AV.ptrT (some (Nat.succ (Nat.succ (Nat.succ s)))) (Row.G [ay 7 l y]) 0,AV.int .i64 x])) { lock:=false,bs:=[(0,aj.row Z1)] })) [(2,AV.ptr 2 0 0 0),(3,AV.ptr 2 1 0 0),(5,AV.ptr 2 3 0 0),(10,AV.ptr 0 0 0 0),(11,AV.int .i64 (Int.ofNat 0)),(47,AV.agg Z1),(48,AV.int .i64 (Int.ofNat 0))])) [(2,AV.ptr 2 0 0 0),(3,AV.ptr 2 1 0 0),(5,AV.ptr 2 3 0 0),(10,AV.ptr 0 0 0 0),(11,AV.int .i64 a),(47,AV.agg Z1),(48,AV.int .i64 (Int.ofNat 14)),(49,AV.bool false)])) (Row.M [aM.arr .i64 (ff (fun x=>Int.ofNat 0) 0 m 14) 14]))) { lock:=false,bs:=[(0,aj.row (Row.G [AV.ptrT (some (Nat.succ s)) (Row.G [ay 7 l y]) 0])),(0,aj.row (Row.I .i64 [lam])),(0,aj.row (Row.M [aM.arr .i64 o N])),(0,aj.row (Row.G [AV.slc 0 2 0 0 1 N (some N)])),(0,aj.row (Row.G [AV.fn (Fn.func 56) [AV.ptrT (some (Nat.succ s)) (Row.G [ay 7 l y]) 0] []])),(0,aj.loop L)] }:=by kernel_rfl
theorem M9 (n s l N:Nat) (y m o:Nat→Int) (lam a:Int) (L:dF) (H:aa):aK (jy n 80 91 2 5) (il aI n 0) aP aQ (part Tryz.f80 [1,1,1,1,0,1,0,1,0,0,1,1,1,1,0,0]) (hints (Fe a)) (jc m::an::ke s l y lam N o [oP s l y,(0,.loop L)]::H) =
 Tr.ite (cn lam a) Tr.bad (Tr.ok (Ex.exit 6,[(2,AV.ptr 2 0 0 0,none),(3,AV.ptr 2 1 0 0,none),(5,AV.ptr 2 3 0 0,none),(10,AV.ptr 0 0 0 0,none),(11,AV.int .i64 a,none),(63,AV.bool false,some 1)],{ lock:=false,bs:=[(0,aj.row (Row.M [aM.arr .i64 m 14]))] } :: an::{ lock:=false,bs:=[(0,aj.row (Row.G [AV.ptrT (some (Nat.succ s)) (Row.G [ay 7 l y]) 0])),(0,aj.row (Row.I .i64 [lam])),(0,aj.row (Row.M [aM.arr .i64 o N])),(0,aj.row (Row.G [AV.slc 0 2 0 0 1 N (some N)])),(0,aj.row (Row.G [AV.fn (Fn.func 56) [AV.ptrT (some (Nat.succ s)) (Row.G [ay 7 l y]) 0] []])),(0,aj.loop L)] } :: H)):=by kernel_rfl
theorem KX (n s l N:Nat) (y m o:Nat→Int) (lam a:Int) (L:dF) (H:aa):aK (jy n 80 91 2 5) (il aI n 0) aP aQ (part Tryz.f80 [1,1,1,1,0,1,0,1,0,0,1,1,1,1,0,0]) (hints (lT m a (Int.ofNat 14)++[(49,.bool false)])) (jc m::an::ke s l y lam N o [oP s l y,(0,.loop L)]::H) =
 Tr.ite (cn lam a) Tr.bad (Tr.ok (Ex.exit 6,[(2,AV.ptr 2 0 0 0,none),(3,AV.ptr 2 1 0 0,none),(5,AV.ptr 2 3 0 0,none),(10,AV.ptr 0 0 0 0,none),(11,AV.int .i64 a,none),(63,AV.bool false,some 1)],{ lock:=false,bs:=[(0,aj.row (Row.M [aM.arr .i64 m 14]))] } :: an::{ lock:=false,bs:=[(0,aj.row (Row.G [AV.ptrT (some (Nat.succ s)) (Row.G [ay 7 l y]) 0])),(0,aj.row (Row.I .i64 [lam])),(0,aj.row (Row.M [aM.arr .i64 o N])),(0,aj.row (Row.G [AV.slc 0 2 0 0 1 N (some N)])),(0,aj.row (Row.G [AV.fn (Fn.func 56) [AV.ptrT (some (Nat.succ s)) (Row.G [ay 7 l y]) 0] []])),(0,aj.loop L)] } :: H)):=by kernel_rfl
end Go.Eng
end
