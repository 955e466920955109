/- Gall: the law of places: trees. -/
import Derived.Test.YtgphpjdchnfjlaaDoorV6Gcnx8
import Derived.Test.YtgphpjdchnfjlaaDoorV6Gp2x6
import Derived.Test.YtgphpjdchnfjlaaDoorRows
import Derived.Test.YtgphpjdchnfjlaaDoorChecked
import Derived.Test.YtgphpjdchnfjlaaDoorTie
import Derived.Test.YtgphpjdchnfjlaaDoorCards
import Derived.ProofKit
import Derived.Lib.LaidIn
import Derived.Lib.LaidTab
import Derived.FnData
import Derived.Handed
import Derived.SevenTiedAt
import Derived.Test.YtgphpjdchnfjlaaDoorV6GaKx6
import Derived.OpenShut
set_option linter.unusedVariables false
set_option linter.unusedSimpArgs false
set_option maxRecDepth 100000
section
namespace Go.Eng
open Int (ofNat)
open Go.Proofs Go.Eng.Gall
theorem Xr (n:Nat) (O:Int) (U:Nat) (Z:Nat→Int) (V:Nat) (J:Nat→Int) (H:ab) (c d e:Int) (x:Bool) (e2 w e3:Int) (m:Nat) (y:Nat→Int):bg Tryd.prog (cd (n+2)) 100000 5 Tryd.f5 (KtG.kt 5) (il (tX (tX (tX (tX (tX (tX (tX (tX (lW aF 15 Oa) 23 [a8 O U Z V J] (.int .i64 e)) 30 [a8 O U Z V J,.int .i64 c] (.tup [cw m y false,.int .i64 (ofNat 0)])) 31 [a8 O U Z V J,.int .i64 c] (.tup [cw m y false,.int .i64 (ofNat 0)])) 32 [a8 O U Z V J,.int .i64 c,.int .i64 d] (.tup [.bool x,.int .i64 e2])) 33 [a8 O U Z V J,.int .i64 c,.int .i64 d] (.tup [.bool x,.int .i64 e2])) 34 [a8 O U Z V J] (.tup [.int .i64 w,.int .i64 e3])) 35 [a8 O U Z V J] (.tup [.int .i64 w,.int .i64 e3])) 36 [cw m y false,cw m y false] (.bool true)) n 2) aR aQ [(a8 O U Z V J,none),(.int .i64 c,none),(.int .i64 d,none)] H =
 (fun (Z0:List AV)=>((fun (Z1:List AV)=>Tr.ite (bM (ofNat 15) (ofNat U)) (Tr.reqP True (Tr.ok ((AV.bool true,none),H))) (Tr.ite (bM (ofNat 60) (ofNat V)) (Tr.reqP True (Tr.ok ((AV.bool true,none),H))) (Tr.reqP ([a8 O U Z V J]=[a8 O U Z V J]) (Tr.ite (b9 e (ofNat 0)) (Tr.ite (bM (ofNat 7) (ofNat U)) (Tr.reqP True (Tr.ok ((AV.bool true,none),H))) (Tr.reqP (Z1=Z1) (Tr.reqP (Z1=Z1) (Tr.reqP (Z0=Z0) (Tr.reqP (Z0=Z0) (Tr.reqP ([a8 O U Z V J]=[a8 O U Z V J]) (Tr.reqP ([a8 O U Z V J]=[a8 O U Z V J]) (Tr.reqP ([cw m y false,cw m y false]=[cw m y false,cw m y false]) (Tr.ite true (Tr.ite (b9 (ofNat 0) (ofNat 0)) (Tr.ite (LH x x) (Tr.ite (b9 e2 e2) (Tr.ite (b9 w w) (Tr.ite (b9 e3 e3) (Tr.reqP True (Tr.ok ((AV.bool true,none),H))) (Tr.ok ((AV.bool false,some 1),H))) (Tr.ok ((AV.bool false,some 1),H))) (Tr.ok ((AV.bool false,some 1),H))) (Tr.ok ((AV.bool false,some 1),H))) (Tr.ok ((AV.bool false,some 1),H))) (Tr.ok ((AV.bool false,some 1),H))))))))))) (Tr.reqP (Z1=Z1) (Tr.reqP (Z1=Z1) (Tr.reqP (Z0=Z0) (Tr.reqP (Z0=Z0) (Tr.reqP ([a8 O U Z V J]=[a8 O U Z V J]) (Tr.reqP ([a8 O U Z V J]=[a8 O U Z V J]) (Tr.reqP ([cw m y false,cw m y false]=[cw m y false,cw m y false]) (Tr.ite true (Tr.ite (b9 (ofNat 0) (ofNat 0)) (Tr.ite (LH x x) (Tr.ite (b9 e2 e2) (Tr.ite (b9 w w) (Tr.ite (b9 e3 e3) (Tr.reqP True (Tr.ok ((AV.bool true,none),H))) (Tr.ok ((AV.bool false,some 1),H))) (Tr.ok ((AV.bool false,some 1),H))) (Tr.ok ((AV.bool false,some 1),H))) (Tr.ok ((AV.bool false,some 1),H))) (Tr.ok ((AV.bool false,some 1),H))) (Tr.ok ((AV.bool false,some 1),H)))))))))))))) [a8 O U Z V J,AV.int .i64 c])) [a8 O U Z V J,AV.int .i64 c,AV.int .i64 d]:=by kernel_rfl
theorem Xs (n:Nat) (O:Int) (U:Nat) (Z:Nat→Int) (V:Nat) (J:Nat→Int) (H:ab) (c d e:Int) (x:Bool) (e2 w e3:Int) (e1:Int):bg Tryd.prog (cd (n+2)) 100000 5 Tryd.f5 (KtG.kt 5) (il (tX (tX (tX (tX (tX (tX (tX (tX (lW aF 15 Oa) 23 [a8 O U Z V J] (.int .i64 e)) 30 [a8 O U Z V J,.int .i64 c] (.tup [.nils,.int .i64 e1])) 31 [a8 O U Z V J,.int .i64 c] (.tup [.nils,.int .i64 e1])) 32 [a8 O U Z V J,.int .i64 c,.int .i64 d] (.tup [.bool x,.int .i64 e2])) 33 [a8 O U Z V J,.int .i64 c,.int .i64 d] (.tup [.bool x,.int .i64 e2])) 34 [a8 O U Z V J] (.tup [.int .i64 w,.int .i64 e3])) 35 [a8 O U Z V J] (.tup [.int .i64 w,.int .i64 e3])) 36 [.nils,.nils] (.bool true)) n 2) aR aQ [(a8 O U Z V J,none),(.int .i64 c,none),(.int .i64 d,none)] H =
 (fun (Z0:List AV)=>((fun (Z1:List AV)=>Tr.ite (bM (ofNat 15) (ofNat U)) (Tr.reqP True (Tr.ok ((AV.bool true,none),H))) (Tr.ite (bM (ofNat 60) (ofNat V)) (Tr.reqP True (Tr.ok ((AV.bool true,none),H))) (Tr.reqP ([a8 O U Z V J]=[a8 O U Z V J]) (Tr.ite (b9 e (ofNat 0)) (Tr.ite (bM (ofNat 7) (ofNat U)) (Tr.reqP True (Tr.ok ((AV.bool true,none),H))) (Tr.reqP (Z1=Z1) (Tr.reqP (Z1=Z1) (Tr.reqP (Z0=Z0) (Tr.reqP (Z0=Z0) (Tr.reqP ([a8 O U Z V J]=[a8 O U Z V J]) (Tr.reqP ([a8 O U Z V J]=[a8 O U Z V J]) (Tr.reqP ([AV.nils,AV.nils]=[AV.nils,AV.nils]) (Tr.ite true (Tr.ite (b9 e1 e1) (Tr.ite (LH x x) (Tr.ite (b9 e2 e2) (Tr.ite (b9 w w) (Tr.ite (b9 e3 e3) (Tr.reqP True (Tr.ok ((AV.bool true,none),H))) (Tr.ok ((AV.bool false,some 1),H))) (Tr.ok ((AV.bool false,some 1),H))) (Tr.ok ((AV.bool false,some 1),H))) (Tr.ok ((AV.bool false,some 1),H))) (Tr.ok ((AV.bool false,some 1),H))) (Tr.ok ((AV.bool false,some 1),H))))))))))) (Tr.reqP (Z1=Z1) (Tr.reqP (Z1=Z1) (Tr.reqP (Z0=Z0) (Tr.reqP (Z0=Z0) (Tr.reqP ([a8 O U Z V J]=[a8 O U Z V J]) (Tr.reqP ([a8 O U Z V J]=[a8 O U Z V J]) (Tr.reqP ([AV.nils,AV.nils]=[AV.nils,AV.nils]) (Tr.ite true (Tr.ite (b9 e1 e1) (Tr.ite (LH x x) (Tr.ite (b9 e2 e2) (Tr.ite (b9 w w) (Tr.ite (b9 e3 e3) (Tr.reqP True (Tr.ok ((AV.bool true,none),H))) (Tr.ok ((AV.bool false,some 1),H))) (Tr.ok ((AV.bool false,some 1),H))) (Tr.ok ((AV.bool false,some 1),H))) (Tr.ok ((AV.bool false,some 1),H))) (Tr.ok ((AV.bool false,some 1),H))) (Tr.ok ((AV.bool false,some 1),H)))))))))))))) [a8 O U Z V J,AV.int .i64 c])) [a8 O U Z V J,AV.int .i64 c,AV.int .i64 d]:=by kernel_rfl
theorem Xt (n:Nat) (O:Int) (U:Nat) (Z:Nat→Int) (V:Nat) (J:Nat→Int) (H:ab) (c d:Int):bg Tryd.prog (cd (n+2)) 100000 5 Tryd.f5 (KtG.kt 5) (il (tN (tN (tN (tN (tN (tN (tN (tN (lW aF 15 Oa) 23) 30) 31) 32) 33) 34) 35) 36) n 2) aR aQ [(a8 O U Z V J,none),(.int .i64 c,none),(.int .i64 d,none)] H =
 Tr.ite (bM (ofNat 15) (ofNat U)) (Tr.reqP True (Tr.ok ((AV.bool true,none),H))) (Tr.ite (bM (ofNat 60) (ofNat V)) (Tr.reqP True (Tr.ok ((AV.bool true,none),H))) Tr.bad):=by kernel_rfl
end Go.Eng
end
section
namespace Go.Eng
open Go.Proofs Go.Eng.Gall
section
variable (O:Int) (U:Nat) (Z:Nat→Int) (V:Nat) (J:Nat→Int) (n:Nat) (H:ab) (c d:Int)
theorem IQ:∃ x e,Mj O U Z V J c d=.tup [.bool x,.int .i64 e]:=by
 unfold Mj OK;split
 · split
   · exact ⟨_,_,rfl⟩
   · exact ⟨_,_,rfl⟩
 · exact ⟨_,_,rfl⟩
theorem Ic:∃ w e,Nh O U Z V J=.tup [.int .i64 w,.int .i64 e]:=by
 unfold Nh;split
 · exact ⟨_,_,rfl⟩
 · exact ⟨_,_,rfl⟩
theorem Jc (hl:U≤1000):(∃ m y,m≤1000∧Mx O U Z V J c=.tup [cw m y false,.int .i64 (Int.ofNat 0)])∨∃ e,Mx O U Z V J c=.tup [.nils,.int .i64 e]:=by
 unfold Mx;split
 · split
   · refine .inl ⟨_,_,?_,rfl⟩;unfold EO Np;exact Nat.le_trans (List.length_filter_le _ _) (by simp;exact hl)
   · exact .inr ⟨_,rfl⟩
 · exact .inr ⟨_,rfl⟩
theorem c5:cd (n+19) (.fn 5) [a8 O U Z V J,.int .i64 c,.int .i64 d] H=some (.bool true,H):=by
 by_cases hg:U≤15∧V≤60
 · obtain ⟨g1,g2⟩:=hg;have hl:U≤1000:=by omega
   have hb:V≤1000:=by omega
   obtain ⟨x,e2,hmu⟩:=IQ O U Z V J c d;obtain ⟨w,e3,hco⟩:=Ic O U Z V J;have h23:=fun q H=>Qa (n+13+q) O U Z V J H hl hb;have h30:=fun q H=>UP (n+2+q) O U Z V J H c hl hb;have h31:=fun q H=>UQ (n+10+q) O U Z V J H c hl hb;have h32:=fun q H=>Qb (n+2+q) O U Z V J H c d hl hb;have h33:=fun q H=>US (n+10+q) O U Z V J H c d hl hb;have h34:=fun q H=>UT (n+1+q) O U Z V J H hl hb;have h35:=fun q H=>UU (n+11+q) O U Z V J H hl hb;rw[hmu] at h32 h33;rw[hco] at h34 h35;have a1:∀ q,n+13+q+3=n+16+q:=fun q=>by omega
   have a2:∀ q,n+2+q+14=n+16+q:=fun q=>by omega
   have a3:∀ q,n+10+q+6=n+16+q:=fun q=>by omega
   have a4:∀ q,n+1+q+15=n+16+q:=fun q=>by omega
   have a5:∀ q,n+11+q+5=n+16+q:=fun q=>by omega
   have a6:∀ q,n+15+q+1=n+16+q:=fun q=>by omega
   simp only[a1,a2,a3,a4,a5] at h23 h30 h31 h32 h33 h34 h35;rcases Jc O U Z V J c hl with ⟨m,y,hm,hp⟩ | ⟨e1,hp⟩
   · rw[hp] at h30 h31;refine bj (n:=n+18) Tryd.func5 rfl rfl rfl (Xr (n+16) O U Z V J H c d (cu O U Z V J) x e2 w e3 m y) (lF _ (n+16) 2 (fun q=>bO (bO (bO (bO (bO (bO (bO (bO (Qy wO (aN _)) (h23 q)) (h30 q)) (h31 q)) (h32 q)) (h33 q)) (h34 q)) (h35 q)) (fun H=>by
      have:=Qe (n+15+q) m y H hm;rw[a6] at this;exact this))) (aj _ _) (ak _ _) ?_
     cases x;all_goals
      repeat' first
       | (refine Tr.af (fun hc=>?_) (fun hc=>?_)<;>(try simp (disch:=omega) only[nV,nW,AO,beq_self_eq_true] at hc)<;>(try (exfalso;omega)))
       | (refine Tr.aa ?_ ?_;· ((try simp (disch:=omega) only[nV,nW]);try omega))
       | (refine Tr.ai ?_ ?_;· first | exact trivial | rfl | exact ⟨rfl,rfl⟩ | fail)
       | fail
      all_goals first
       | exact Tr.ag ⟨rfl,rfl⟩
       | fail
   · rw[hp] at h30 h31;refine bj (n:=n+18) Tryd.func5 rfl rfl rfl (Xs (n+16) O U Z V J H c d (cu O U Z V J) x e2 w e3 e1) (lF _ (n+16) 2 (fun q=>bO (bO (bO (bO (bO (bO (bO (bO (Qy wO (aN _)) (h23 q)) (h30 q)) (h31 q)) (h32 q)) (h33 q)) (h34 q)) (h35 q)) (fun H=>by
      have:=Qd (n+15+q) H;rw[a6] at this;exact this))) (aj _ _) (ak _ _) ?_
     cases x;all_goals
      repeat' first
       | (refine Tr.af (fun hc=>?_) (fun hc=>?_)<;>(try simp (disch:=omega) only[nV,nW,AO,beq_self_eq_true] at hc)<;>(try (exfalso;omega)))
       | (refine Tr.aa ?_ ?_;· ((try simp (disch:=omega) only[nV,nW]);try omega))
       | (refine Tr.ai ?_ ?_;· first | exact trivial | rfl | exact ⟨rfl,rfl⟩ | fail)
       | fail
      all_goals first
       | exact Tr.ag ⟨rfl,rfl⟩
       | fail
 · refine bj (n:=n+18) Tryd.func5 rfl rfl rfl (Xt (n+16) O U Z V J H c d) (lF _ (n+16) 2 (fun q=>eA (eA (eA (eA (eA (eA (eA (eA (Qy wO (aN _))))))))))) (aj _ _) (ak _ _) ?_;refine Tr.af (fun _=>Tr.ai trivial (Tr.ag ⟨rfl,rfl⟩)) (fun r1=>Tr.af (fun _=>Tr.ai trivial (Tr.ag ⟨rfl,rfl⟩)) (fun r2=>?_));exfalso;simp (disch:=omega) only[nV,nW] at r1;simp (disch:=omega) only[nV,nW] at r2;omega
end
end Go.Eng
end
section
namespace Go.Proofs.YtgphpjdchnfjlaaDoor
open Go.ChangeShapes Go.WideShapes Go.ChangeAt Go.RowKit
theorem Tryd.own:ownKnob Tryd.prog.godebug=none:=by kernel_rfl
def BP:List (String×DataW Unit):=[("math/bits.deBruijn32tab",Rows.laid_math_bits_deBruijn32tab),("math/bits.deBruijn64tab",Rows.laid_math_bits_deBruijn64tab)]
def t32:List Int:=Go.Lib.deBruijn32tab.map fun n:Nat=>(n:Int)
def t64:List Int:=Go.Lib.deBruijn64tab.map fun n:Nat=>(n:Int)
theorem PC:(Rows.laid_math_bits_deBruijn64tab:DataW Unit)=Lib.tabData .u8 t64:=by kernel_rfl
set_option maxRecDepth 100000 in
theorem F2 {W:World} (h:laidMetH Tryd.prog BP W):Eng.lM W:=by
 have h':laidMet Tryd.prog BP W:=h;obtain ⟨ps,hv,_⟩:=h';obtain ⟨_,_,_,_,_,_,_,_,_,_,hv,_⟩:=hv;obtain ⟨g,t,cs,fuel,p,q,h1,h2,h3,h4,_⟩:=hv;obtain rfl:1=g:=Option.some.inj ((show Tryd.prog.globalNamed "math/bits.deBruijn64tab" = some 1 by kernel_rfl).symm.trans h1);obtain rfl:139=t:=Option.some.inj ((show (Tryd.prog.globals[1]?).map (·.type)=some 139 by kernel_rfl).symm.trans h2);rw[PC] at h4;have hcs:=Lib.cells_of_tab Tryd.underlying139 Tryd.underlying5 (by kernel_rfl) (by kernel_rfl) h4;intro b o v hg;unfold Eng.oT at hg;split at hg
 · rename_i hbo;obtain ⟨rfl,ho⟩:=hbo;simp only[Option.some.injEq] at hg;subst hg;rw[World.var?_cell h1 h3 o,← Array.getElem?_toList,hcs,List.getElem?_map];have hl:Go.Lib.deBruijn64tab.length=64:=by decide
   rw[t64,List.getElem?_map,List.getElem?_eq_getElem (by omega)];simp only[Option.map_some,List.getD_eq_getElem?_getD,List.getElem?_eq_getElem (show o<Go.Lib.deBruijn64tab.length by omega),Option.getD_some]
 · cases hg
noncomputable def pZ (os:Os):World :=
 let w0:=World.holding Tryd.prog os ⟨#[],#[],[]⟩
 let put (h:Array Obj) (g:Nat) (cs:Array Value):Array Obj:=h.modify g fun
  | .cells _ t frozen=>.cells cs t frozen
  | o=>o
 { w0 with heap:=put (put w0.heap 0 (t32.map fun z=>Value.int .u8 z).toArray) 1 (t64.map fun z=>Value.int .u8 z).toArray }
theorem IC (os:Os) (args:Array Value):LaidIn Tryd.prog ((pZ os).forCall (fun _ _=>0) ⟨#[],args,[]⟩).memory BP [0,1] :=
 LaidIn.of_run [0,1] 8 (by kernel_rfl) (by kernel_rfl) (by kernel_rfl) (by kernel_rfl)
theorem Gf (os:Os) (args:Array Value):laidMetH Tryd.prog BP ((pZ os).forCall (fun _ _=>0) ⟨#[],args,[]⟩).memory:=(IC os args).met
end Go.Proofs.YtgphpjdchnfjlaaDoor
end
section
namespace Go.Eng.Gall
open Go.Proofs
def Pt:List cA:=[]
theorem Dr:∀ e ∈ Pt,aD Tryd.prog e:=I0
def jO:List Int:=[100,110,60,110,90,95,75,100,120,125,80,110,80,80,70,200]
def EJ:List Int:=[100,110,90,110,90,95,75,100,120,125,80,110,80,80,70,200]
def gR (a b w s:List Int):Row:=.G (.int .i64 10::.slcT none (.I .i64 a) 4 4 true::.slcT none (.I .i64 b) 2 1 true::(w.map (AV.int .i64)++s.map (AV.int .u64)))
def gA (a b:List Int):AV:=.agg (.G [.int .i64 10,.slcT none (.I .i64 a) 4 4 true,.slcT none (.I .i64 b) 2 1 true])
noncomputable def E1:cA:=⟨46,[],gA jO [3,1]⟩
theorem WZ:aD Tryd.prog E1:=a7 Dr (H':=[⟨true,[]⟩]) (by kernel_rfl) (by kernel_rfl)
noncomputable def Pu:List cA:=E1::Pt
theorem Ds:∀ e ∈ Pu,aD Tryd.prog e:=aY WZ Dr
noncomputable def E2:cA:=⟨47,[],gA EJ [3,1]⟩
theorem W0:aD Tryd.prog E2:=a7 Ds (H':=[⟨true,[]⟩]) (by kernel_rfl) (by kernel_rfl)
noncomputable def Pv:List cA:=E2::Pu
theorem Dt:∀ e ∈ Pv,aD Tryd.prog e:=aY W0 Ds
noncomputable def E3:cA:=⟨22,[gA jO [3,1]],.int .i64 0⟩
theorem W1:aD Tryd.prog E3:=a7 Dt (H':=[⟨true,[]⟩]) (by kernel_rfl) (by kernel_rfl)
noncomputable def Px:List cA:=E3::Pv
theorem Du:∀ e ∈ Px,aD Tryd.prog e:=aY W1 Dt
noncomputable def E4:cA:=⟨16,[gA jO [3,1],.int .i64 2,.int .i64 2],.tup [.agg (.I .i64 [100,105]),.int .i64 0]⟩
theorem W2:aD Tryd.prog E4:=a7 Du (H':=[⟨true,[]⟩]) (by kernel_rfl) (by kernel_rfl)
noncomputable def Py:List cA:=E4::Px
theorem Dv:∀ e ∈ Py,aD Tryd.prog e:=aY W2 Du
end Go.Eng.Gall
end
section
namespace Go.Eng.Gall
open Go.Proofs
noncomputable def E5:cA:=⟨18,[gA jO [3,1],.int .i64 2],.tup [.agg (.I .i64 [2,3]),.int .i64 0]⟩
theorem W3:aD Tryd.prog E5:=a7 Dv (H':=[⟨true,[]⟩]) (by kernel_rfl) (by kernel_rfl)
noncomputable def Pz:List cA:=E5::Py
theorem Dw:∀ e ∈ Pz,aD Tryd.prog e:=aY W3 Dv
noncomputable def E6:cA:=⟨56,[.ptrT none (gR jO [3,1] [0,3,0,1,2,3,0,1,0,0,0,0,0,0,0,0,0,0,0,0] [0,8,0,0,0,0,0,0,0,0]) 0],.agg (.I .i64 [0,3,1,1,2,3,0,0,0,0,0,0,0,0,0,0,0,0,0,0])⟩
theorem W4:aD Tryd.prog E6:=a7 Dw (H':=[⟨true,[]⟩]) (by kernel_rfl) (by kernel_rfl)
noncomputable def PB:List cA:=E6::Pz
theorem Dx:∀ e ∈ PB,aD Tryd.prog e:=aY W4 Dw
noncomputable def E7:cA:=⟨20,[gA jO [3,1],.int .i64 1],.tup [.agg (.I .i64 [1,1]),.int .i64 0]⟩
theorem W5:aD Tryd.prog E7:=a7 Dx (H':=[⟨true,[]⟩]) (by kernel_rfl) (by kernel_rfl)
noncomputable def PD:List cA:=E7::PB
theorem Dy:∀ e ∈ PD,aD Tryd.prog e:=aY W5 Dx
noncomputable def E8:cA:=⟨49,[gA jO [3,1],.nils],.tup [.ptrT none (gR jO [3,1] [0,3,0,1,2,3,0,1,0,0,0,0,0,0,0,0,0,0,0,0] [0,8,0,0,0,0,0,0,0,0]) 0,.int .i64 0]⟩
theorem W6:aD Tryd.prog E8:=a7 Dy (H':=[⟨true,[]⟩]) (by kernel_rfl) (by kernel_rfl)
noncomputable def PE:List cA:=E8::PD
theorem Dz:∀ e ∈ PE,aD Tryd.prog e:=aY W6 Dy
end Go.Eng.Gall
end
section
namespace Go.Eng.Gall
open Go.Proofs
noncomputable def E9:cA:=⟨65,[.ptrT none (gR jO [3,1] [0,3,0,1,2,3,0,1,0,0,0,0,0,0,0,0,0,0,0,0] [0,8,0,0,0,0,0,0,0,0]) 0],.tup [.agg (.G [.int .i64 0,.int .i64 0,.nils]),.bool false]⟩
theorem W7:aD Tryd.prog E9:=a7 Dz (H':=[⟨true,[]⟩]) (by kernel_rfl) (by kernel_rfl)
noncomputable def PF:List cA:=E9::PE
theorem DA:∀ e ∈ PF,aD Tryd.prog e:=aY W7 Dz
noncomputable def Tz:cA:=⟨56,[.ptrT none (gR jO [3,1] [0,0,0,1,2,3,0,1,0,0,0,0,0,0,0,0,0,0,0,0] [0,8,0,0,0,0,0,0,0,0]) 0],.agg (.I .i64 [0,0,1,1,2,3,0,0,0,0,0,0,0,0,0,0,0,0,0,0])⟩
theorem RI:aD Tryd.prog Tz:=a7 DA (H':=[⟨true,[]⟩]) (by kernel_rfl) (by kernel_rfl)
noncomputable def Ku:List cA:=Tz::PF
theorem zA:∀ e ∈ Ku,aD Tryd.prog e:=aY RI DA
noncomputable def TA:cA:=⟨65,[.ptrT none (gR jO [3,1] [0,0,0,1,2,3,0,1,0,0,0,0,0,0,0,0,0,0,0,0] [0,8,0,0,0,0,0,0,0,0]) 0],.tup [.agg (.G [.int .i64 0,.int .i64 0,.slcT none (.I .i64 [0,3]) 1 2 false]),.bool true]⟩
theorem RJ:aD Tryd.prog TA:=a7 zA (H':=[⟨true,[]⟩]) (by kernel_rfl) (by kernel_rfl)
noncomputable def Kv:List cA:=TA::Ku
theorem zB:∀ e ∈ Kv,aD Tryd.prog e:=aY RJ zA
noncomputable def TB:cA:=⟨56,[.ptrT none (gR jO [3,1] [0,3,0,1,2,3,0,0,0,0,0,0,0,0,0,0,0,0,0,0] [0,8,0,0,0,0,0,0,0,0]) 0],.agg (.I .i64 [0,3,1,1,2,3,0,0,0,0,0,0,0,0,0,0,0,0,0,0])⟩
theorem RK:aD Tryd.prog TB:=a7 zB (H':=[⟨true,[]⟩]) (by kernel_rfl) (by kernel_rfl)
noncomputable def Kw:List cA:=TB::Kv
theorem zC:∀ e ∈ Kw,aD Tryd.prog e:=aY RK zB
end Go.Eng.Gall
end
section
namespace Go.Eng.Gall
open Go.Proofs
noncomputable def TC:cA:=⟨65,[.ptrT none (gR jO [3,1] [0,3,0,1,2,3,0,0,0,0,0,0,0,0,0,0,0,0,0,0] [0,8,0,0,0,0,0,0,0,0]) 0],.tup [.agg (.G [.int .i64 0,.int .i64 0,.nils]),.bool false]⟩
theorem RL:aD Tryd.prog TC:=a7 zC (H':=[⟨true,[]⟩]) (by kernel_rfl) (by kernel_rfl)
noncomputable def Kx:List cA:=TC::Kw
theorem zD:∀ e ∈ Kx,aD Tryd.prog e:=aY RL zC
noncomputable def TD:cA:=⟨56,[.ptrT none (gR jO [3,1] [1,1,0,1,2,3,0,0,0,0,0,0,0,0,0,0,0,0,0,0] [0,8,0,0,0,0,0,0,0,0]) 0],.agg (.I .i64 [1,1,1,1,2,3,0,0,0,0,0,0,0,0,0,0,0,0,0,0])⟩
theorem RM:aD Tryd.prog TD:=a7 zD (H':=[⟨true,[]⟩]) (by kernel_rfl) (by kernel_rfl)
noncomputable def Ky:List cA:=TD::Kx
theorem zE:∀ e ∈ Ky,aD Tryd.prog e:=aY RM zD
noncomputable def TE:cA:=⟨65,[.ptrT none (gR jO [3,1] [1,1,0,1,2,3,0,0,0,0,0,0,0,0,0,0,0,0,0,0] [0,8,0,0,0,0,0,0,0,0]) 0],.tup [.agg (.G [.int .i64 0,.int .i64 1,.slcT none (.I .i64 [0,1,3]) 1 3 false]),.bool true]⟩
theorem RO:aD Tryd.prog TE:=a7 zE (H':=[⟨true,[]⟩]) (by kernel_rfl) (by kernel_rfl)
noncomputable def Kz:List cA:=TE::Ky
theorem zF:∀ e ∈ Kz,aD Tryd.prog e:=aY RO zE
noncomputable def TF:cA:=⟨56,[.ptrT none (gR jO [3,1] [0,3,1,1,2,3,0,0,0,0,0,0,0,0,0,0,0,0,0,0] [0,8,0,0,0,0,0,0,0,0]) 0],.agg (.I .i64 [0,3,1,1,2,3,0,0,0,0,0,0,0,0,0,0,0,0,0,0])⟩
theorem RP:aD Tryd.prog TF:=a7 zF (H':=[⟨true,[]⟩]) (by kernel_rfl) (by kernel_rfl)
noncomputable def KA:List cA:=TF::Kz
theorem zG:∀ e ∈ KA,aD Tryd.prog e:=aY RP zF
end Go.Eng.Gall
end
section
namespace Go.Eng.Gall
open Go.Proofs
noncomputable def TG:cA:=⟨65,[.ptrT none (gR jO [3,1] [0,3,1,1,2,3,0,0,0,0,0,0,0,0,0,0,0,0,0,0] [0,8,0,0,0,0,0,0,0,0]) 0],.tup [.agg (.G [.int .i64 0,.int .i64 0,.nils]),.bool false]⟩
theorem RQ:aD Tryd.prog TG:=a7 zG (H':=[⟨true,[]⟩]) (by kernel_rfl) (by kernel_rfl)
noncomputable def KB:List cA:=TG::KA
theorem zH:∀ e ∈ KB,aD Tryd.prog e:=aY RQ zG
noncomputable def TH:cA:=⟨56,[.ptrT none (gR jO [3,1] [2,2,1,1,2,3,0,0,0,0,0,0,0,0,0,0,0,0,0,0] [0,8,0,0,0,0,0,0,0,0]) 0],.agg (.I .i64 [2,2,1,1,2,3,0,0,0,0,0,0,0,0,0,0,0,0,0,0])⟩
theorem RR:aD Tryd.prog TH:=a7 zH (H':=[⟨true,[]⟩]) (by kernel_rfl) (by kernel_rfl)
noncomputable def KC:List cA:=TH::KB
theorem zJ:∀ e ∈ KC,aD Tryd.prog e:=aY RR zH
noncomputable def TI:cA:=⟨65,[.ptrT none (gR jO [3,1] [2,2,1,1,2,3,0,0,0,0,0,0,0,0,0,0,0,0,0,0] [0,8,0,0,0,0,0,0,0,0]) 0],.tup [.agg (.G [.int .i64 0,.int .i64 0,.nils]),.bool false]⟩
theorem RS:aD Tryd.prog TI:=a7 zJ (H':=[⟨true,[]⟩]) (by kernel_rfl) (by kernel_rfl)
noncomputable def KD:List cA:=TI::KC
theorem zK:∀ e ∈ KD,aD Tryd.prog e:=aY RS zJ
noncomputable def TJ:cA:=⟨56,[.ptrT none (gR jO [3,1] [2,2,1,1,3,3,0,0,0,0,0,0,0,0,0,0,0,0,0,0] [0,8,0,0,0,0,0,0,0,0]) 0],.agg (.I .i64 [2,2,1,1,3,3,0,0,0,0,0,0,0,0,0,0,0,0,0,0])⟩
theorem RT:aD Tryd.prog TJ:=a7 zK (H':=[⟨true,[]⟩]) (by kernel_rfl) (by kernel_rfl)
noncomputable def KE:List cA:=TJ::KD
theorem zL:∀ e ∈ KE,aD Tryd.prog e:=aY RT zK
end Go.Eng.Gall
end
section
namespace Go.Eng.Gall
open Go.Proofs
noncomputable def TK:cA:=⟨65,[.ptrT none (gR jO [3,1] [2,2,1,1,3,3,0,0,0,0,0,0,0,0,0,0,0,0,0,0] [0,8,0,0,0,0,0,0,0,0]) 0],.tup [.agg (.G [.int .i64 0,.int .i64 0,.nils]),.bool false]⟩
theorem RU:aD Tryd.prog TK:=a7 zL (H':=[⟨true,[]⟩]) (by kernel_rfl) (by kernel_rfl)
noncomputable def KF:List cA:=TK::KE
theorem zM:∀ e ∈ KF,aD Tryd.prog e:=aY RU zL
noncomputable def TL:cA:=⟨74,[.ptrT none (gR jO [3,1] [0,3,0,1,2,3,0,1,0,0,0,0,0,0,0,0,0,0,0,0] [0,8,0,0,0,0,0,0,0,0]) 0],.slcT none (.I .i64 [3,1,0,2]) 1 4 false⟩
theorem RV:aD Tryd.prog TL:=a7 zM (H':=[⟨true,[]⟩]) (by kernel_rfl) (by kernel_rfl)
noncomputable def KG:List cA:=TL::KF
theorem zN:∀ e ∈ KG,aD Tryd.prog e:=aY RV zM
noncomputable def TM:cA:=⟨38,[gA jO [3,1]],.tup [.slcT none (.I .i64 [3,1,0,2]) 1 4 true,.int .i64 0]⟩
theorem RW:aD Tryd.prog TM:=a7 zN (H':=[⟨true,[]⟩]) (by kernel_rfl) (by kernel_rfl)
noncomputable def KH:List cA:=TM::KG
theorem zO:∀ e ∈ KH,aD Tryd.prog e:=aY RW zN
noncomputable def TN:cA:=⟨22,[gA EJ [3,1]],.int .i64 0⟩
theorem RX:aD Tryd.prog TN:=a7 zO (H':=[⟨true,[]⟩]) (by kernel_rfl) (by kernel_rfl)
noncomputable def KI:List cA:=TN::KH
theorem zP:∀ e ∈ KI,aD Tryd.prog e:=aY RX zO
end Go.Eng.Gall
end
section
namespace Go.Eng.Gall
open Go.Proofs
noncomputable def TO:cA:=⟨49,[gA EJ [3,1],.nils],.tup [.ptrT none (gR EJ [3,1] [0,1,0,1,2,3,0,1,0,0,0,0,0,0,0,0,0,0,0,0] [0,8,0,0,0,0,0,0,0,0]) 0,.int .i64 0]⟩
theorem RY:aD Tryd.prog TO:=a7 zP (H':=[⟨true,[]⟩]) (by kernel_rfl) (by kernel_rfl)
noncomputable def KJ:List cA:=TO::KI
theorem zQ:∀ e ∈ KJ,aD Tryd.prog e:=aY RY zP
noncomputable def TP:cA:=⟨56,[.ptrT none (gR EJ [3,1] [0,1,0,1,2,3,0,1,0,0,0,0,0,0,0,0,0,0,0,0] [0,8,0,0,0,0,0,0,0,0]) 0],.agg (.I .i64 [0,1,1,1,2,3,0,0,0,0,0,0,0,0,0,0,0,0,0,0])⟩
theorem RZ:aD Tryd.prog TP:=a7 zQ (H':=[⟨true,[]⟩]) (by kernel_rfl) (by kernel_rfl)
noncomputable def KL:List cA:=TP::KJ
theorem zR:∀ e ∈ KL,aD Tryd.prog e:=aY RZ zQ
noncomputable def TQ:cA:=⟨65,[.ptrT none (gR EJ [3,1] [0,1,0,1,2,3,0,1,0,0,0,0,0,0,0,0,0,0,0,0] [0,8,0,0,0,0,0,0,0,0]) 0],.tup [.agg (.G [.int .i64 0,.int .i64 1,.slcT none (.I .i64 [0,1,3]) 1 3 false]),.bool true]⟩
theorem R0:aD Tryd.prog TQ:=a7 zR (H':=[⟨true,[]⟩]) (by kernel_rfl) (by kernel_rfl)
noncomputable def KM:List cA:=TQ::KL
theorem zS:∀ e ∈ KM,aD Tryd.prog e:=aY R0 zR
noncomputable def TR:cA:=⟨74,[.ptrT none (gR EJ [3,1] [0,1,0,1,2,3,0,1,0,0,0,0,0,0,0,0,0,0,0,0] [0,8,0,0,0,0,0,0,0,0]) 0],.nils⟩
theorem R2:aD Tryd.prog TR:=a7 zS (H':=[⟨true,[]⟩]) (by kernel_rfl) (by kernel_rfl)
noncomputable def KN:List cA:=TR::KM
theorem zT:∀ e ∈ KN,aD Tryd.prog e:=aY R2 zS
end Go.Eng.Gall
end
section
namespace Go.Eng.Gall
open Go.Proofs
noncomputable def TS:cA:=⟨38,[gA EJ [3,1]],.tup [.nils,.int .i64 13]⟩
theorem R3:aD Tryd.prog TS:=a7 zT (H':=[⟨true,[]⟩]) (by kernel_rfl) (by kernel_rfl)
noncomputable def KO:List cA:=TS::KN
theorem zU:∀ e ∈ KO,aD Tryd.prog e:=aY R3 zT
noncomputable def TT:cA:=⟨25,[gA EJ [3,1]],.tup [.agg (.G [.int .i64 0,.int .i64 1,.slcT none (.I .i64 [0,1,3]) 1 3 false]),.int .i64 0]⟩
theorem I3:aD Tryd.prog TT:=a7 zU (H':=[⟨true,[]⟩]) (by kernel_rfl) (by kernel_rfl)
noncomputable def KP:List cA:=TT::KO
theorem zV:∀ e ∈ KP,aD Tryd.prog e:=aY I3 zU
noncomputable def TU:cA:=⟨56,[.ptrT none (gR jO [3,1] [1,1,0,1,2,3,0,1,0,0,0,0,0,0,0,0,0,0,0,0] [0,8,0,0,0,0,0,0,0,0]) 0],.agg (.I .i64 [1,1,1,1,2,3,0,0,0,0,0,0,0,0,0,0,0,0,0,0])⟩
theorem R4:aD Tryd.prog TU:=a7 zV (H':=[⟨true,[]⟩]) (by kernel_rfl) (by kernel_rfl)
noncomputable def KQ:List cA:=TU::KP
theorem zX:∀ e ∈ KQ,aD Tryd.prog e:=aY R4 zV
noncomputable def TV:cA:=⟨65,[.ptrT none (gR jO [3,1] [1,1,0,1,2,3,0,1,0,0,0,0,0,0,0,0,0,0,0,0] [0,8,0,0,0,0,0,0,0,0]) 0],.tup [.agg (.G [.int .i64 0,.int .i64 1,.slcT none (.I .i64 [0,1,3]) 1 3 false]),.bool true]⟩
theorem R5:aD Tryd.prog TV:=a7 zX (H':=[⟨true,[]⟩]) (by kernel_rfl) (by kernel_rfl)
noncomputable def KR:List cA:=TV::KQ
theorem zY:∀ e ∈ KR,aD Tryd.prog e:=aY R5 zX
end Go.Eng.Gall
end
section
namespace Go.Eng.Gall
open Go.Proofs
noncomputable def TW:cA:=⟨56,[.ptrT none (gR jO [3,1] [2,2,0,1,2,3,0,1,0,0,0,0,0,0,0,0,0,0,0,0] [0,8,0,0,0,0,0,0,0,0]) 0],.agg (.I .i64 [2,2,1,1,2,3,0,0,0,0,0,0,0,0,0,0,0,0,0,0])⟩
theorem R6:aD Tryd.prog TW:=a7 zY (H':=[⟨true,[]⟩]) (by kernel_rfl) (by kernel_rfl)
noncomputable def KS:List cA:=TW::KR
theorem zZ:∀ e ∈ KS,aD Tryd.prog e:=aY R6 zY
noncomputable def TX:cA:=⟨65,[.ptrT none (gR jO [3,1] [2,2,0,1,2,3,0,1,0,0,0,0,0,0,0,0,0,0,0,0] [0,8,0,0,0,0,0,0,0,0]) 0],.tup [.agg (.G [.int .i64 0,.int .i64 0,.nils]),.bool false]⟩
theorem R7:aD Tryd.prog TX:=a7 zZ (H':=[⟨true,[]⟩]) (by kernel_rfl) (by kernel_rfl)
noncomputable def KU:List cA:=TX::KS
theorem z6:∀ e ∈ KU,aD Tryd.prog e:=aY R7 zZ
noncomputable def TY:cA:=⟨56,[.ptrT none (gR jO [3,1] [3,3,0,1,2,3,0,1,0,0,0,0,0,0,0,0,0,0,0,0] [0,8,0,0,0,0,0,0,0,0]) 0],.agg (.I .i64 [3,3,1,1,2,3,0,0,0,0,0,0,0,0,0,0,0,0,0,0])⟩
theorem R8:aD Tryd.prog TY:=a7 z6 (H':=[⟨true,[]⟩]) (by kernel_rfl) (by kernel_rfl)
noncomputable def KV:List cA:=TY::KU
theorem z7:∀ e ∈ KV,aD Tryd.prog e:=aY R8 z6
noncomputable def TZ:cA:=⟨65,[.ptrT none (gR jO [3,1] [3,3,0,1,2,3,0,1,0,0,0,0,0,0,0,0,0,0,0,0] [0,8,0,0,0,0,0,0,0,0]) 0],.tup [.agg (.G [.int .i64 0,.int .i64 0,.nils]),.bool false]⟩
theorem R9:aD Tryd.prog TZ:=a7 z7 (H':=[⟨true,[]⟩]) (by kernel_rfl) (by kernel_rfl)
noncomputable def KW:List cA:=TZ::KV
theorem z8:∀ e ∈ KW,aD Tryd.prog e:=aY R9 z7
end Go.Eng.Gall
end
section
namespace Go.Eng.Gall
open Go.Proofs
noncomputable def T2:cA:=⟨30,[gA jO [3,1],.int .i64 0],.tup [.slcT none (.I .i64 [2,3]) 1 2 false,.int .i64 0]⟩
theorem Sa:aD Tryd.prog T2:=a7 z8 (H':=[⟨true,[]⟩]) (by kernel_rfl) (by kernel_rfl)
noncomputable def KX:List cA:=T2::KW
theorem Aa:∀ e ∈ KX,aD Tryd.prog e:=aY Sa z8
noncomputable def T3:cA:=⟨56,[.ptrT none (gR jO [3,1] [0,3,0,1,2,3,0,1,0,0,0,0,0,0,0,0,0,0,0,0] [0,9,0,0,0,0,0,0,0,0]) 0],.agg (.I .i64 [0,0,1,1,2,3,0,0,0,0,0,0,0,0,0,0,0,0,0,0])⟩
theorem Sb:aD Tryd.prog T3:=a7 Aa (H':=[⟨true,[]⟩]) (by kernel_rfl) (by kernel_rfl)
noncomputable def KY:List cA:=T3::KX
theorem Ab:∀ e ∈ KY,aD Tryd.prog e:=aY Sb Aa
noncomputable def T4:cA:=⟨65,[.ptrT none (gR jO [3,1] [0,3,0,1,2,3,0,1,0,0,0,0,0,0,0,0,0,0,0,0] [0,9,0,0,0,0,0,0,0,0]) 0],.tup [.agg (.G [.int .i64 0,.int .i64 0,.slcT none (.I .i64 [0,3]) 1 2 false]),.bool true]⟩
theorem Sc:aD Tryd.prog T4:=a7 Ab (H':=[⟨true,[]⟩]) (by kernel_rfl) (by kernel_rfl)
noncomputable def KZ:List cA:=T4::KY
theorem Ac:∀ e ∈ KZ,aD Tryd.prog e:=aY Sc Ab
noncomputable def T5:cA:=⟨32,[gA jO [3,1],.int .i64 1,.int .i64 0],.tup [.bool true,.int .i64 0]⟩
theorem Sd:aD Tryd.prog T5:=a7 Ac (H':=[⟨true,[]⟩]) (by kernel_rfl) (by kernel_rfl)
noncomputable def K0:List cA:=T5::KZ
theorem Hl:∀ e ∈ K0,aD Tryd.prog e:=aY Sd Ac
end Go.Eng.Gall
end
section
namespace Go.Eng.Gall
open Go.Proofs
noncomputable def T6:cA:=⟨73,[.ptrT none (gR jO [3,1] [0,3,0,1,2,3,0,1,0,0,0,0,0,0,0,0,0,0,0,0] [0,8,0,0,0,0,0,0,0,0]) 0],.int .i64 2⟩
theorem Se:aD Tryd.prog T6:=GF (O:=10) (U:=4) (zl:=[100,110,60,110,90,95,75,100,120,125,80,110,80,80,70,200]) (V:=1) (bl:=[3,1]) (f1:=true) (f2:=true) (Wl:=[0,3,0,1,2,3,0,1,0,0,0,0,0,0,0,0,0,0,0,0]) (Bl:=[0,8,0,0,0,0,0,0,0,0]) (v:=2) rfl (by decide) rfl rfl rfl rfl (by kernel_rfl)
noncomputable def K1:List cA:=T6::K0
theorem Ad:∀ e ∈ K1,aD Tryd.prog e:=aY Se Hl
noncomputable def T7:cA:=⟨34,[gA jO [3,1]],.tup [.int .i64 2,.int .i64 0]⟩
theorem Sf:aD Tryd.prog T7:=a7 Ad (H':=[⟨true,[]⟩]) (by kernel_rfl) (by kernel_rfl)
noncomputable def K2:List cA:=T7::K1
theorem Ae:∀ e ∈ K2,aD Tryd.prog e:=aY Sf Ad
noncomputable def T8:cA:=⟨18,[gA jO [3,1],.int .i64 0],.tup [.agg (.I .i64 [0,3]),.int .i64 0]⟩
theorem Sg:aD Tryd.prog T8:=a7 Ae (H':=[⟨true,[]⟩]) (by kernel_rfl) (by kernel_rfl)
noncomputable def K3:List cA:=T8::K2
theorem Af:∀ e ∈ K3,aD Tryd.prog e:=aY Sg Ae
noncomputable def T9:cA:=⟨18,[gA jO [3,1],.int .i64 1],.tup [.agg (.I .i64 [0,1]),.int .i64 0]⟩
theorem Sh:aD Tryd.prog T9:=a7 Af (H':=[⟨true,[]⟩]) (by kernel_rfl) (by kernel_rfl)
noncomputable def K4:List cA:=T9::K3
theorem Ag:∀ e ∈ K4,aD Tryd.prog e:=aY Sh Af
end Go.Eng.Gall
end
section
namespace Go.Eng.Gall
open Go.Proofs
noncomputable def Ua:cA:=⟨18,[gA jO [3,1],.int .i64 3],.tup [.agg (.I .i64 [0,1]),.int .i64 0]⟩
theorem Si:aD Tryd.prog Ua:=a7 Ag (H':=[⟨true,[]⟩]) (by kernel_rfl) (by kernel_rfl)
noncomputable def K5:List cA:=Ua::K4
theorem Ah:∀ e ∈ K5,aD Tryd.prog e:=aY Si Ag
noncomputable def Ub:cA:=⟨20,[gA jO [3,1],.int .i64 3],.tup [.agg (.I .i64 [0,0]),.int .i64 0]⟩
theorem Sj:aD Tryd.prog Ub:=a7 Ah (H':=[⟨true,[]⟩]) (by kernel_rfl) (by kernel_rfl)
noncomputable def K6:List cA:=Ub::K5
theorem Ai:∀ e ∈ K6,aD Tryd.prog e:=aY Sj Ah
noncomputable def Uc:cA:=⟨56,[.ptrT none (gR jO [3,1] [0,3,0,1,2,3,0,1,0,0,0,0,0,0,0,0,0,0,0,0] [4,8,0,0,0,0,0,0,0,0]) 0],.agg (.I .i64 [3,3,1,1,2,2,0,0,0,0,0,0,0,0,0,0,0,0,0,0])⟩
theorem Sk:aD Tryd.prog Uc:=a7 Ai (H':=[⟨true,[]⟩]) (by kernel_rfl) (by kernel_rfl)
noncomputable def K7:List cA:=Uc::K6
theorem Aj:∀ e ∈ K7,aD Tryd.prog e:=aY Sk Ai
noncomputable def Ud:cA:=⟨65,[.ptrT none (gR jO [3,1] [0,3,0,1,2,3,0,1,0,0,0,0,0,0,0,0,0,0,0,0] [4,8,0,0,0,0,0,0,0,0]) 0],.tup [.agg (.G [.int .i64 0,.int .i64 0,.nils]),.bool false]⟩
theorem Sl:aD Tryd.prog Ud:=a7 Aj (H':=[⟨true,[]⟩]) (by kernel_rfl) (by kernel_rfl)
noncomputable def K8:List cA:=Ud::K7
theorem Ak:∀ e ∈ K8,aD Tryd.prog e:=aY Sl Aj
end Go.Eng.Gall
end
section
namespace Go.Eng.Gall
open Go.Proofs
noncomputable def Ue:cA:=⟨32,[gA jO [3,1],.int .i64 0,.int .i64 2],.tup [.bool false,.int .i64 0]⟩
theorem Sm:aD Tryd.prog Ue:=a7 Ak (H':=[⟨true,[]⟩]) (by kernel_rfl) (by kernel_rfl)
noncomputable def K9:List cA:=Ue::K8
theorem Hm:∀ e ∈ K9,aD Tryd.prog e:=aY Sm Ak
noncomputable def Uf:cA:=⟨73,[.ptrT none (gR EJ [3,1] [0,1,0,1,2,3,0,1,0,0,0,0,0,0,0,0,0,0,0,0] [0,8,0,0,0,0,0,0,0,0]) 0],.int .i64 0⟩
theorem Sn:aD Tryd.prog Uf:=GF (O:=10) (U:=4) (zl:=[100,110,90,110,90,95,75,100,120,125,80,110,80,80,70,200]) (V:=1) (bl:=[3,1]) (f1:=true) (f2:=true) (Wl:=[0,1,0,1,2,3,0,1,0,0,0,0,0,0,0,0,0,0,0,0]) (Bl:=[0,8,0,0,0,0,0,0,0,0]) (v:=0) rfl (by decide) rfl rfl rfl rfl (by kernel_rfl)
noncomputable def La:List cA:=Uf::K9
theorem Al:∀ e ∈ La,aD Tryd.prog e:=aY Sn Hm
noncomputable def Ug:cA:=⟨34,[gA EJ [3,1]],.tup [.int .i64 0,.int .i64 0]⟩
theorem Sp:aD Tryd.prog Ug:=a7 Al (H':=[⟨true,[]⟩]) (by kernel_rfl) (by kernel_rfl)
noncomputable def Lb:List cA:=Ug::La
theorem Am:∀ e ∈ Lb,aD Tryd.prog e:=aY Sp Al
noncomputable def Uh:cA:=⟨25,[gA jO [3,1]],.tup [.agg (.G [.int .i64 0,.int .i64 0,.nils]),.int .i64 5]⟩
theorem Sq:aD Tryd.prog Uh:=a7 Am (H':=[⟨true,[]⟩]) (by kernel_rfl) (by kernel_rfl)
noncomputable def Lc:List cA:=Uh::Lb
theorem An:∀ e ∈ Lc,aD Tryd.prog e:=aY Sq Am
end Go.Eng.Gall
end
section
namespace Go.Eng.Gall
open Go.Proofs
noncomputable def Ui:cA:=⟨30,[gA EJ [3,1],.int .i64 0],.tup [.nils,.int .i64 13]⟩
theorem Sr:aD Tryd.prog Ui:=a7 An (H':=[⟨true,[]⟩]) (by kernel_rfl) (by kernel_rfl)
noncomputable def PA:List cA:=Ui::Lc
theorem Hn:∀ e ∈ PA,aD Tryd.prog e:=aY Sr An
end Go.Eng.Gall
end
section
namespace Go.Eng.Gall
open Go.Proofs
noncomputable def EW:cA:=⟨15,[],.bool true⟩
theorem OU:aD Tryd.prog EW:=a7 Hn (H':=[⟨true,[]⟩]) (by kernel_rfl) (by kernel_rfl)
end Go.Eng.Gall
end
section
namespace Go.Eng
open Go.Proofs Go.ChangeShapes Go.WideShapes Go.ChangeAt Go.RowKit
theorem Xh {p:aG} {M:Mu} {k:IntKind} {z:Nat→Int} {N sz len:Nat} {full:Bool} {v:Value} (h:al p M (.slcT none (.F (fun j=>.int k (z j)) N) sz len full) v):al p M (.slcT none (.M [.arr k z N]) sz len full) v:=by
 cases h with
 | slcN=>exact .slcN
 | slcT vs h0 h1 hv hl hf hx =>
   have e:∀ j,j<(Row.M [dj.arr k z N]).len→j<N:=fun j hj=>by simpa[Row.len,aA,aT] using hj
   refine .slcT vs (fun j hj=>h0 j (e j hj)) (fun j hj=>h1 j (e j hj)) (fun j hj=>?_) hl hf hx;have:=hv j (e j hj);simp only[Row.get,getM,if_pos (e j hj)] at this ⊢;exact this.bu _ _
theorem BI {P:Program} {w:World} {r:Reach} {base:Nat} {t e:TypeId} {v:Value} (ht:P.underlying t=some (.slice e)) (h:Cell.okWide P w r base t v):∀ a l c,v=.slice (some a) l c→a.spot=none:=by
 rintro a l c rfl;simp only[Cell.okWide,ht,Cell.ok] at h;exact h.2.2.2.1
theorem Cs:uV Tryd.prog 2 1:=xW Tryd.underlying2
theorem N7:uV Tryd.prog 3 1:=xW Tryd.underlying3
theorem LP:uV Tryd.prog 29 2:=wi Tryd.underlying29 Cs Cs rfl rfl (by kernel_rfl) (by kernel_rfl) (by kernel_rfl)
theorem wj {P:Program} {k:IntKind} {t:TypeId} {f0 f1 f2:Field} {n0 n1 n2:Nat} (ht:P.underlying t=some (.struct #[f0,f1,f2])) (h0:lA k P f0.type n0) (h1:lA k P f1.type n1) (h2:lA k P f2.type n2) (o0:f0.offset=0) (o1:f1.offset=n0) (o2:f2.offset=n0+n1) (c0:P.cellsOf f0.type=n0) (c1:P.cellsOf f1.type=n1) (c2:P.cellsOf f2.type=n2) (c:P.cellsOf t=n0+n1+n2):lA k P t (n0+n1+n2):=by
 intro H enc w base sp held fuel cs x h;obtain ⟨xs,m,_,_,hl,hxl,hf⟩:=DataW.trod_struct ht h;match xs,hxl,hf with
 | [y0,y1,y2],_,hf =>
   have g0:=hf 0 f0 rfl;have g1:=hf 1 f1 rfl;have g2:=hf 2 f2 rfl;obtain ⟨_,k0⟩:=h0 _ _ _ _ _ _ _ _ _ g0;obtain ⟨_,k1⟩:=h1 _ _ _ _ _ _ _ _ _ g1;obtain ⟨_,k2⟩:=h2 _ _ _ _ _ _ _ _ _ g2;refine ⟨by rw[hl,c],fun j hj=>?_⟩;by_cases p:j<n0
   · obtain ⟨z,hz,hw⟩:=k0 j p;refine ⟨z,?_,hw⟩;rw[o0,c0] at hz;simpa[List.getElem?_take,p] using hz
   by_cases q:j<n0+n1
   · obtain ⟨z,hz,hw⟩:=k1 (j-n0) wO;refine ⟨z,?_,hw⟩;rw[o1,c1] at hz;have:j-n0<n1:=by omega
     simpa[List.getElem?_take,this,List.getElem?_drop,show n0+(j-n0)=j by omega] using hz
   · obtain ⟨z,hz,hw⟩:=k2 (j-(n0+n1)) wO;refine ⟨z,?_,hw⟩;rw[o2,c2] at hz;have:j-(n0+n1)<n2:=by omega
     simpa[List.getElem?_take,this,List.getElem?_drop,show n0+n1+(j-(n0+n1))=j by omega] using hz
theorem LQ:uV Tryd.prog 56 4:=wj Tryd.underlying56 LP Cs Cs rfl rfl rfl (by kernel_rfl) (by kernel_rfl) (by kernel_rfl) (by kernel_rfl)
def ES (t:TypeId) (A:AV→Prop):Prop:=∀ (H:Type) (enc:TypeId×Value→H) (w:World) (r:Reach) (b0 base:Nat) (sp:Nat→Bool) (held:Bool) (v:Value) (d:DataW H) (ps:List MemPlace),lM w →
 Value.okWide Tryd.prog w r b0 t v→DataW.Trod enc Tryd.prog w base sp held t v d ps→∃ a,A a∧al (Pw w) Mu.no a v
def Az:List (AV→Prop)→List AV→Prop
 | [],[]=>True
 | A::As,a::xs=>A a∧Az As xs
 | _,_=>False
theorem pE {A:AV→Prop} {As:List (AV→Prop)} {xs:List AV} (h:Az (A::As) xs):∃ a ys,xs=a::ys∧A a∧Az As ys:=by
 cases xs with
 | nil=>exact h.elim
 | cons a ys=>exact ⟨a,ys,rfl,h.1,h.2⟩
theorem EV {xs:List AV} (h:Az [] xs):xs=[]:=by
 cases xs with
 | nil=>rfl
 | cons a ys=>exact h.elim
def Lg:List TypeId→List (AV→Prop)→Prop
 | [],[]=>True
 | t::ts,A::As=>ES t A∧Lg ts As
 | _,_=>False
theorem B6 {H:Type} {enc:TypeId×Value→H} {w:World} (hg:lM w) {r:Reach} {b0 base:Nat} {sp:Nat→Bool} {held:Bool}:∀ (ts:List TypeId) (As:List (AV→Prop)) (vs:List Value) (ds:List (DataW H)) (ps:List MemPlace),Lg ts As →
 (∀ (j:Nat) t v,ts[j]?=some t→vs[j]?=some v→Value.okWide Tryd.prog w r b0 t v)→DataW.TrodAll enc Tryd.prog w base sp held ts vs ds ps→∃ xs,Az As xs∧vs.length=xs.length∧∀ j,j<xs.length→al (Pw w) Mu.no (xs.getD j .undef) (vs.getD j undef)
 | [],[],vs,ds,ps,_,_,h=>by
   obtain ⟨rfl,rfl,rfl⟩:=trodAll_nil h;exact ⟨[],trivial,rfl,fun j hj=>by simp at hj⟩
 | t::ts,A::As,vs,ds,ps,hT,hv,h=>by
   obtain ⟨v,vs',d,ds',p,q,rfl,rfl,rfl,h1,h2⟩:=trodAll_cons h;obtain ⟨a,ha,hr⟩:=hT.1 H enc w r b0 base sp held v d p hg (hv 0 t v rfl rfl) h1;obtain ⟨xs,hA,hl,hR⟩:=B6 hg ts As vs' ds' q hT.2 (fun j t' v' e1 e2=>hv (j+1) t' v' (by simpa using e1) (by simpa using e2)) h2;refine ⟨a::xs,⟨ha,hA⟩,by simp[hl],fun j hj=>?_⟩;cases j with
   | zero=>exact hr
   | succ j=>simpa using hR j (by simpa using hj)
 | [],_::_,_,_,_,hT,_,_=>hT.elim
 | _::_,[],_,_,_,hT,_,_=>hT.elim
theorem vQ {H:Type} {enc:TypeId×Value→H} {W W':World} {base:Nat} {sp':Nat→Bool} (hl:laidOutB Tryd.prog=true):∀ (ts:List TypeId) (vs:List Value) (ds:List (DataW H)) (ps:List MemPlace),(∀ t ∈ ts,Tryd.prog.readableRec t=true∧t<Tryd.prog.types.size) →
 DataW.TrodAll enc Tryd.prog W base (fun _=>true) true ts vs ds ps→(∀ p ∈ ps,W.sameAt W' p)→(∀ p ∈ ps,sp' p.block=true)→DataW.TrodAll enc Tryd.prog W' base sp' true ts vs ds ps
 | [],vs,ds,ps,_,h,_,_=>by
   obtain ⟨rfl,rfl,rfl⟩:=trodAll_nil h;exact trodAll_mk0
 | t::ts,vs,ds,ps,ht,h,hs,hp=>by
   obtain ⟨v,vs',d,ds',p,q,rfl,rfl,rfl,h1,h2⟩:=trodAll_cons h;obtain ⟨r1,r2⟩:=ht t (by simp);refine ⟨p,q,?_,vQ hl ts vs' ds' q (fun t' h'=>ht t' (List.mem_cons_of_mem _ h')) h2 (fun x hx=>hs x (List.mem_append_right _ hx)) (fun x hx=>hp x (List.mem_append_right _ hx)),rfl⟩;exact WideElems.Trod_stays hl r1 r2 h1 (fun x hx=>hs x (List.mem_append_left _ hx)) (fun x hx=>hp x (List.mem_append_left _ hx))
theorem Fv (hN:dI Tryd.prog) (hm:Tryd.prog.follows .mixedOrders=true) (hW:aD Tryd.prog ⟨15,[],.bool true⟩) (n:Nat):bW Tryd.prog (cd n) :=
 mM hN (pI hN hm) (wU hN (pI hN hm) hW) KtG.kt 100000 n
theorem D8 {f:FuncId} {ts:List TypeId} {As:List (AV→Prop)} (hT:Lg ts As) {n:Nat} (hlaw:∀ xs,Az As xs→∃ H',cd n (.fn f) xs [⟨true,[]⟩]=some (.bool true,H')) {H:Type} {enc:TypeId×Value→H} {w:World} (hg:lM w) {r:Reach} {b0 base:Nat} {sp:Nat→Bool} {held:Bool} {args:Array Value} {ds:List (DataW H)} {ps:List MemPlace}
 (hv:∀ (j:Nat) t v,ts[j]?=some t→args[j]?=some v→Value.okWide Tryd.prog w r b0 t v) (h:DataW.TrodAll enc Tryd.prog w base sp held ts args.toList ds ps) :
 Calls Tryd.prog f args w (fun e w'=>e=.returned (.bool true)∧Go.RowKit.Below w.heap.size w w'):=by
 obtain ⟨xs,hA,hl,hR⟩:=B6 hg ts As args.toList ds ps hT (fun j t v e1 e2=>hv j t v e1 (by simpa using e2)) h
 obtain ⟨H',hc⟩:=hlaw xs hA
 refine DO (Fv Gall.named Gall.mixed Gall.OU n) hc hg ⟨by simpa using hl,fun j hj=>?_⟩
 have:=hR j hj
 have e:args.toList.getD j undef=args.getD j undef:=by
  rw[Array.getD_eq_getD_getElem?,List.getD_eq_getElem?_getD,Array.getElem?_toList]
 rwa [e] at this
def ER (a:AV):Prop:=∃ n:Int,a=.int .i64 n∧-9223372036854775808≤n∧n≤9223372036854775807
theorem Fa:ES 3 ER:=fun H enc w r b0 base sp held v d ps hg hv h=>by
 obtain ⟨fuel,hf⟩:=h;obtain ⟨n,e,_,hw⟩:=DataW.trod_int Tryd.underlying3 hf;have e3:Tryd.prog.cellsOf 3=1:=by kernel_rfl
 obtain ⟨s,rfl⟩:=WideShapes.okWide_int Tryd.underlying3 hv;have:s=n:=by simpa[Value.cells] using e
 subst this;refine ⟨_,⟨s,rfl,?_⟩,.int _ _⟩;simp[Lit.wf,IntKind.min,IntKind.max,IntKind.signed,IntKind.bits] at hw;omega
theorem laidOut:laidOutB Tryd.prog=true:=by kernel_rfl
theorem AW {P:Program} {k:IntKind} {t e:TypeId} {n m:Nat} (ht:P.underlying t=some (.array n e)) (he:lA k P e m) (hm:0<m) (hc:P.cellsOf e=m) (hct:P.cellsOf t=n*m):lA k P t (n*m):=by
 intro H enc w base sp held fuel cs x h;obtain ⟨xs,f,_,_,hl,hxl,hel⟩:=DataW.trod_array ht h;refine ⟨by rw[hl,hct],fun j hj=>?_⟩;have hi:j / m<n:=by rw[Nat.div_lt_iff_lt_mul hm];exact hj
 have hm':=Nat.mod_lt j hm;have g:=hel (j / m) hi;have:j / m<xs.length:=by omega
 rw[List.getElem?_eq_getElem this] at g;obtain ⟨_,k1⟩:=he _ _ _ _ _ _ _ _ _ g;obtain ⟨z,hz,hw⟩:=k1 (j % m) hm';refine ⟨z,?_,hw⟩;rw[hc,List.getElem?_take,if_pos hm',List.getElem?_drop] at hz;have hd:=Nat.div_add_mod j m;rw[Nat.mul_comm] at hd;rwa [hd] at hz
theorem LR:uV Tryd.prog 61 2:=AW Tryd.underlying61 N7 wO (by kernel_rfl) (by kernel_rfl)
theorem tV {t e n:Nat} (ht:Tryd.prog.underlying t=some (.slice e)) (he:uV Tryd.prog e n) (hn:0<n) (hc:Tryd.prog.cellsOf e=n) {H:Type} {enc:TypeId×Value→H} {w:World} (hg:lM w) {r:Reach} {b0 base:Nat} {sp:Nat→Bool} {held:Bool} {fuel:Nat} {v:Value} {x:DataW H×List MemPlace}
 (hv:Cell.okWide Tryd.prog w r b0 t v) (h:DataW.trod enc Tryd.prog w base sp held fuel t [v]=some x):∃ (len:Nat) (z:Nat→Int),al (Pw w) Mu.no (slA n len z) v∧v.oneCell'=true:=by
 rcases BH ht he hn hc hg (BI ht hv) h with rfl | ⟨zs,len,h1,h2⟩
 · exact ⟨0,fun _=>0,.slcN,rfl⟩
 · refine ⟨len,zs,?_,?_⟩
   · unfold slA
     rw[cP]
     exact Xh h1
   · cases h1<;>rfl
def P3 (a:AV):Prop:=∃ (O:Int) (U:Nat) (Z:Nat→Int) (V:Nat) (J:Nat→Int),a=a8 O U Z V J
theorem Nt:ES 25 P3:=fun H enc w r b0 base sp held v d ps hg hv h=>by
 have hts:Tryd.prog.cellTypes Tryd.prog.depth 25=some [2,22,23]:=by kernel_rfl
 have hc25:Tryd.prog.cellsOf 25=3:=by kernel_rfl
 have hc2:Tryd.prog.cellsOf 2=1:=by kernel_rfl
 have hc22:Tryd.prog.cellsOf 22=1:=by kernel_rfl
 have hc23:Tryd.prog.cellsOf 23=1:=by kernel_rfl
 have hc56:Tryd.prog.cellsOf 56=4:=by kernel_rfl
 have hc61:Tryd.prog.cellsOf 61=2:=by kernel_rfl
 simp only[Value.okWide,Tryd.underlying25] at hv;obtain ⟨cs,rfl,hsz,ts,ht,_,hcell⟩:=hv;rw[hts] at ht;obtain rfl:=Option.some.inj ht;rw[hc25] at hsz;obtain ⟨fuel,hf⟩:=h;obtain ⟨xs,n,_,_,_,hxl,hfield⟩:=DataW.trod_struct Tryd.underlying25 hf;have e3:∃ c0 c1 c2,cs=#[c0,c1,c2]:=by
  refine ⟨cs[0],cs[1],cs[2],?_⟩;apply Array.ext
  · simpa using hsz
  · intro i h1 h2;simp at h2;match i,h2 with
    | 0,_=>rfl
    | 1,_=>rfl
    | 2,_=>rfl
 obtain ⟨c0,c1,c2,rfl⟩:=e3;have some_of:∀ i,i<3→∃ y,xs[i]?=some y:=fun i hi=>by
  have:i<xs.length:=by rw[hxl];simpa using hi
  exact ⟨xs[i],List.getElem?_eq_getElem this⟩
 obtain ⟨y0,hy0⟩:=some_of 0 wO;obtain ⟨y1,hy1⟩:=some_of 1 wO;obtain ⟨y2,hy2⟩:=some_of 2 wO;have f0:=hfield 0 _ rfl;have f1:=hfield 1 _ rfl;have f2:=hfield 2 _ rfl;rw[hy0] at f0;rw[hy1] at f1;rw[hy2] at f2;simp only[Value.cells] at f0 f1 f2;have g0:DataW.trod enc Tryd.prog w base sp held n 2 [c0]=some y0:=by simpa[hc2] using f0
 have g1:DataW.trod enc Tryd.prog w base sp held n 22 [c1]=some y1:=by simpa[hc22] using f1
 have g2:DataW.trod enc Tryd.prog w base sp held n 23 [c2]=some y2:=by simpa[hc23] using f2
 obtain ⟨wd,e0,_,hw⟩:=DataW.trod_int Tryd.underlying2 g0;simp only[List.cons.injEq,and_true] at e0;subst e0;obtain ⟨u1,hu1,k1⟩:=hcell 1 c1 rfl;obtain ⟨u2,hu2,k2⟩:=hcell 2 c2 rfl;simp at hu1 hu2;subst hu1;subst hu2;obtain ⟨U,Z,r1,o1⟩:=tV Tryd.underlying22 LQ wO hc56 hg k1 g1;obtain ⟨V,J,r2,o2⟩:=tV Tryd.underlying23 LR wO hc61 hg k2 g2;refine ⟨_,⟨wd,U,Z,V,J,rfl⟩,?_⟩;refine .agg rfl (fun j hj=>?_) (fun j hj=>?_)
 · have hj':j<3:=hj;match j,hj' with
   | 0,_=>rfl
   | 1,_=>exact o1
   | 2,_=>exact o2
 · have hj':j<3:=hj;match j,hj' with
   | 0,_=>exact .int _ _
   | 1,_=>exact r1
   | 2,_=>exact r2
end Go.Eng
end
