/- Gall: the law of counts. -/
import Derived.Test.YtgphpjdchnfjlaaDoorV2Gbkx8
import Derived.Test.YtgphpjdchnfjlaaDoorV2EngRnOx7
import Derived.Test.YtgphpjdchnfjlaaDoorRows
import Derived.Test.YtgphpjdchnfjlaaDoorChecked
import Derived.Test.YtgphpjdchnfjlaaDoorTie
import Derived.Test.YtgphpjdchnfjlaaDoorCards
import Derived.ProofKit
import Derived.Lib.LaidIn
import Derived.Lib.LaidTab
import Derived.FnData
import Derived.Handed
import Derived.SevenTiedAt
import Derived.Test.YtgphpjdchnfjlaaDoorV2GaKx6
set_option linter.unusedVariables false
set_option linter.unusedSimpArgs false
set_option maxRecDepth 100000
section
namespace Go.Eng
open Go.Proofs Go.Eng.Gall
section
variable (dr:Int) (lc:Nat) (zc:Nat→Int) (lb:Nat) (zb:Nat→Int)
noncomputable def JN (x:List AV):Int:=match x with
 | [_,.int _ p,.int _ q]=>qJ dr lc zc lb zb p.toNat q.toNat
 | _=>0
noncomputable def m32 (x:List AV):Bool:=match x with
 | [_,.int _ p,.int _ q]=>decide (yi dr lc zc lb zb=none) && (!decide (p.toNat=q.toNat) && (fB lc (gH (fun c=>cI zb c lb) p.toNat q.toNat) || (jq (qB (hJ lc (gH (fun c=>cI zb c lb) p.toNat q.toNat) (fc dr lc zc))) lc lc).isSome))
 | _=>false
def NO (x:List AV):Prop:=∃ p q:Nat,x=[di dr lc zc lb zb,.int .i64 (p:Int),.int .i64 (q:Int)]∧p<lc∧q<lc
def NN (x:List AV):Prop:=∃ p q:Nat,x=[di dr lc zc lb zb,.int .i64 (p:Int),.int .i64 (q:Int)]∧p<lc∧q<lc∧p≠q
variable (n:Nat) (H:aa) (w0 w1:Int)
theorem Qv (hb:lb<40) (h0:dX dr lc zc lb zb=0) (e:Int) (he:e=if yi dr lc zc lb zb=none then 0 else 13) (q:Nat):(tV (tV (tX (tX (oa a6 15 Mp) 23 [di dr lc zc lb zb] (.int .i64 (Int.ofNat 0))) 34 [di dr lc zc lb zb] (.tup [.int .i64 (Q.cntF lc (fc dr lc zc) (jl lb zb)),.int .i64 (Int.ofNat 0)])) 43 (NN dr lc zc lb zb) (fun x=>.tup [.int .i64 (JN dr lc zc lb zb x),.bool true])) 32 (NO dr lc zc lb zb) (fun x=>.tup [.bool (m32 dr lc zc lb zb x),.int .i64 e])).Ok (cd (n+16+q)):=by
 obtain ⟨h1,h2,h3,h4,h5,h6⟩:=qL h0
 subst he
 refine I3 (I3 (iz (iz (RF (by omega) (bx _)) (fun H=>?_)) (fun H=>?_)) (fun A H hA=>?_)) (fun A H hA=>?_)
 · rw[show n+16+q=n+13+q+3 by omega]
   have:=Oc (n+13+q) dr lc zc lb zb H (by omega) (by omega)
   rw[h0] at this;exact this
 · rw[show n+16+q=n+1+q+15 by omega]
   have:=Od (n+1+q) dr lc zc lb zb H (by omega) (by omega)
   unfold Ma at this
   rw[if_pos h0] at this;exact this
 · obtain ⟨a,b,rfl,ha,hb',hab⟩:=hA
   rw[show n+16+q=n+q+16 by omega]
   exact R6 (n+q) dr lc zc lb zb H a b hb h0 ha hb' hab
 · obtain ⟨a,b,rfl,ha,hb'⟩:=hA
   rw[show n+16+q=n+2+q+14 by omega]
   rw[R5 (n+2+q) dr lc zc lb zb H a b (by omega) h0 ha hb']
   unfold Py
   by_cases ho:yi dr lc zc lb zb=none
   · rw[if_pos ho,if_pos ho]
     show some (AV.tup [.bool _,_],H)=some (AV.tup [.bool (decide (yi dr lc zc lb zb=none) && _),_],H)
     rw[decide_eq_true ho,Bool.true_and];rfl
   · rw[if_neg ho,if_neg ho]
     show some (AV.tup [.bool _,_],H)=some (AV.tup [.bool (decide (yi dr lc zc lb zb=none) && _),_],H)
     rw[decide_eq_false ho,Bool.false_and]
theorem c9 (hw0:0≤w0∧w0≤255) (hw1:0≤w1∧w1≤255):cd (n+19) (.fn 9) [di dr lc zc lb zb,.agg (.I .u8 [w0,w1])] H=some (.bool true,H):=by
 by_cases hg:(dX dr lc zc lb zb=0∧2≤lc)∧lb<40
 · obtain ⟨⟨h0,hl2⟩,hb⟩:=hg
   obtain ⟨k1,k2,k3,k4,k5,k6⟩:=qL h0
   have T:=u9 (n+16) dr lc zc lb zb H w0 w1 (Q.cntF lc (fc dr lc zc) (jl lb zb)) (if yi dr lc zc lb zb=none then 0 else 13) (JN dr lc zc lb zb) (m32 dr lc zc lb zb) (NN dr lc zc lb zb) (NO dr lc zc lb zb)
   have ht:=fun q=>Qv dr lc zc lb zb n hb h0 _ rfl q
   obtain ⟨a,ha⟩:∃ a:Nat,w0 % (lc:Int)=(a:Int):=⟨(w0 % (lc:Int)).toNat,by have:=Int.emod_nonneg w0 (show (lc:Int)≠0 by omega);omega⟩
   have hal:a<lc:=by have:=Int.emod_lt_of_pos w0 (show 0<(lc:Int) by omega);omega
   obtain ⟨d,hd⟩:∃ d:Nat,w1 % ((lc:Int)-1)=(d:Int):=⟨(w1 % ((lc:Int)-1)).toNat,by have:=Int.emod_nonneg w1 (show (lc:Int)-1≠0 by omega);omega⟩
   have hdl:d+1<lc:=by have:=Int.emod_lt_of_pos w1 (show 0<(lc:Int)-1 by omega);omega
   have ea:jf .i64 (CI .i64 w0) (Int.ofNat lc)=(a:Int):=by
    rw[Gc (by omega) (by omega),mN,Int.tmod_eq_emod_of_nonneg hw0.1,← ha];rfl
   have es:bX .i64 (Int.ofNat lc) (Int.ofNat 1)=(lc:Int)-1:=by
    rw[Ld]<;>simp only[Int.ofNat_eq_natCast]<;>omega
   have ed:jf .i64 (CI .i64 w1) ((lc:Int)-1)=(d:Int):=by
    rw[Gc (by omega) (by omega),mN,Int.tmod_eq_emod_of_nonneg hw1.1,hd]
   have eab:bg .i64 (bg .i64 (a:Int) (Int.ofNat 1)) (d:Int)=((a+1+d:Nat):Int):=by
    rw[gr (by omega),Gm]<;>omega
   obtain ⟨b,hb2⟩:∃ b:Nat,(a+1+d) % lc=b:=⟨_,rfl⟩
   have hbl:b<lc:=by have:=Nat.mod_lt (a+1+d) (show lc > 0 by omega);omega
   have hab:a≠b:=by
    by_cases q:a+1+d<lc
    · rw[Nat.mod_eq_of_lt q] at hb2;omega
    · rw[Nat.mod_eq_sub_mod (by omega),Nat.mod_eq_of_lt (by omega)] at hb2;omega
   have eb:jf .i64 ((a+1+d:Nat):Int) (Int.ofNat lc)=(b:Int):=by
    rw[mN,Int.tmod_eq_emod_of_nonneg (by omega),← hb2];rfl
   rw[ea,es,ed,eab,eb] at T
   refine bV (n:=n+18) Tryd.func9 rfl rfl rfl T (m6 _ (n+16) 2 ht) (ak _ _) (al _ _) ?_
   clear T ht ea es ed eab eb hb2 hd ha
   have hp:=Ir (a:=a) (b:=b) h0 hal hbl hab
   have b1:=zW k1.2 (fc dr lc zc) (jl lb zb)
   have b2:0≤qJ dr lc zc lb zb a b∧qJ dr lc zc lb zb a b≤10000000000:=zW k1.2 _ _
   have b3:0≤qJ dr lc zc lb zb b a∧qJ dr lc zc lb zb b a≤10000000000:=zW k1.2 _ _
   have ho:=KW h0
   have X1:JN dr lc zc lb zb [di dr lc zc lb zb,.int .i64 (a:Int),.int .i64 (b:Int)]=qJ dr lc zc lb zb a b:=rfl
   have X2:JN dr lc zc lb zb [di dr lc zc lb zb,.int .i64 (b:Int),.int .i64 (a:Int)]=qJ dr lc zc lb zb b a:=rfl
   have M1:m32 dr lc zc lb zb [di dr lc zc lb zb,.int .i64 (a:Int),.int .i64 (b:Int)]=(decide (yi dr lc zc lb zb=none) && decide (qJ dr lc zc lb zb b a=0)):=by
    show (decide (yi dr lc zc lb zb=none) && (!decide (a=b) && _))=_
    rw[decide_eq_false hab,Bool.not_false,Bool.true_and]
    exact congrArg _ (Fi h0 hal hbl)
   have M2:m32 dr lc zc lb zb [di dr lc zc lb zb,.int .i64 (b:Int),.int .i64 (a:Int)]=(decide (yi dr lc zc lb zb=none) && decide (qJ dr lc zc lb zb a b=0)):=by
    show (decide (yi dr lc zc lb zb=none) && (!decide (b=a) && _))=_
    rw[decide_eq_false hab.symm,Bool.not_false,Bool.true_and]
    exact congrArg _ (Fi h0 hbl hal)
   have M3:m32 dr lc zc lb zb [di dr lc zc lb zb,.int .i64 (a:Int),.int .i64 (a:Int)]=false:=by
    show (decide (yi dr lc zc lb zb=none) && (!decide (a=a) && _))=_
    rw[decide_eq_true rfl,Bool.not_true,Bool.false_and,Bool.and_false]
   have E1:bL (cJ (Q.cntF lc (fc dr lc zc) (jl lb zb)) (bg .i64 (JN dr lc zc lb zb [di dr lc zc lb zb,.int .i64 (a:Int),.int .i64 (b:Int)]) (JN dr lc zc lb zb [di dr lc zc lb zb,.int .i64 (b:Int),.int .i64 (a:Int)])))=false:=by
    rw[X1,X2,Gm (by omega) (by omega),← hp,aY,aT];simp
   have f0:∀ {p:Prop},bL (cJ (Int.ofNat 0) (Int.ofNat 0))=true→p:=fun q=>by simp[aY,aT] at q
   have f1:∀ {p:Prop},bL true=true→p:=fun q=>by simp[aY] at q
   refine Tr.af (fun q=>by exfalso;simp (disch:=omega) only[nV,nW] at q;omega) (fun _=>Tr.af (fun _=>Tr.aj rfl (Tr.af (fun q=>f0 q) (fun _=>Tr.af (fun q=>by exfalso;simp (disch:=omega) only[nV,nW] at q;omega) (fun _=>Tr.af (fun q=>by exfalso;simp (disch:=omega) only[nV,nW] at q;omega) (fun _=>?_))))) (fun q=>by exfalso;simp (disch:=omega) only[nV,nW] at q;omega))
   refine Tr.ab (by simp (disch:=omega) only[nV,nW];omega) (Tr.ab (by simp (disch:=omega) only[nV,nW];omega) (Tr.ab (by simp (disch:=omega) only[nV,nW];omega) (Tr.ab (by simp (disch:=omega) only[nV,nW];omega) (Tr.ab (by simp (disch:=omega) only[nV,nW];omega) (Tr.aj rfl (Tr.aj ⟨a,b,rfl,hal,hbl,hab⟩ (Tr.aj ⟨b,a,rfl,hbl,hal,hab.symm⟩ (Tr.aj ⟨a,b,rfl,hal,hbl⟩ (Tr.aj ⟨b,a,rfl,hbl,hal⟩ (Tr.aj ⟨a,a,rfl,hal,hal⟩ (Tr.af (fun q=>f0 q) (fun _=>Tr.af (fun q=>f1 q) (fun _=>Tr.af (fun q=>f1 q) (fun _=>Tr.af (fun q=>absurd (E1.symm.trans q) (by decide)) (fun _=>?_)))))))))))))))
   by_cases hk:Q.cntF lc (fc dr lc zc) (jl lb zb)=0
   · rw[if_neg (fun h=>(ho.1 h) hk)]
     refine Tr.af (fun _=>Tr.af (fun _=>Tr.af (fun _=>Tr.af (fun _=>Tr.aj trivial (Tr.ah ⟨rfl,rfl⟩)) ?_) ?_) ?_) (fun q=>by rw[hk] at q;simp[aT] at q)
     all_goals exact fun q=>by simp[aT] at q
   · have hn:=ho.2 hk
     rw[if_pos hn]
     rw[decide_eq_true hn,Bool.true_and] at M1 M2
     refine Tr.af (fun q=>by rw[aT] at q;exact absurd (by simpa using q) hk) (fun _=>Tr.af (fun _=>Tr.af (fun _=>Tr.af (fun _=>Tr.af (fun _=>Tr.af (fun _=>Tr.af (fun _=>Tr.aj trivial (Tr.ah ⟨rfl,rfl⟩)) (fun q=>?_)) (fun q=>?_)) (fun q=>?_)) (fun q=>by simp[aT] at q)) (fun q=>by simp[aT] at q)) (fun q=>by simp[aT] at q))
     · exfalso
       have q:bL (m32 dr lc zc lb zb [di dr lc zc lb zb,.int .i64 (a:Int),.int .i64 (a:Int)])=false:=q
       rw[M3,aY] at q;cases q
     · exfalso
       have q:Kd (m32 dr lc zc lb zb [di dr lc zc lb zb,.int .i64 (b:Int),.int .i64 (a:Int)]) (cJ (JN dr lc zc lb zb [di dr lc zc lb zb,.int .i64 (a:Int),.int .i64 (b:Int)]) (Int.ofNat 0))=false:=q
       rw[M2,X1,z8,aT] at q
       exact absurd (Bool.eq_false_iff.1 q) (by intro h;apply h;rw[beq_iff_eq,Bool.eq_iff_iff,decide_eq_true_iff,beq_iff_eq];exact Iff.rfl)
     · exfalso
       have q:Kd (m32 dr lc zc lb zb [di dr lc zc lb zb,.int .i64 (a:Int),.int .i64 (b:Int)]) (cJ (JN dr lc zc lb zb [di dr lc zc lb zb,.int .i64 (b:Int),.int .i64 (a:Int)]) (Int.ofNat 0))=false:=q
       rw[M1,X2,z8,aT] at q
       exact absurd (Bool.eq_false_iff.1 q) (by intro h;apply h;rw[beq_iff_eq,Bool.eq_iff_iff,decide_eq_true_iff,beq_iff_eq];exact Iff.rfl)
 · refine bV (n:=n+18) Tryd.func9 rfl rfl rfl (UE (n+16) dr lc zc lb zb H w0 w1 (dX dr lc zc lb zb) (fun x=>x=[di dr lc zc lb zb]∧lc≤1000∧lb≤1000)) (m6 _ (n+16) 2 (fun q=>qI (qI (qI (qj (RF (by omega) (bx _)) (fun A H hA=>by
    obtain ⟨rfl,q1,q2⟩:=hA
    rw[show n+16+q=n+13+q+3 by omega]
    exact Oc (n+13+q) dr lc zc lb zb H q1 q2)))))) (ak _ _) (al _ _) ?_
   refine Tr.af (fun _=>Tr.aj trivial (Tr.ah ⟨rfl,rfl⟩)) (fun r1=>Tr.af (fun r2=>Tr.aj ⟨rfl,?_⟩ (Tr.af (fun _=>Tr.aj trivial (Tr.ah ⟨rfl,rfl⟩)) (fun q=>Tr.af (fun _=>Tr.aj trivial (Tr.ah ⟨rfl,rfl⟩)) (fun q2=>Tr.af (fun _=>Tr.aj trivial (Tr.ah ⟨rfl,rfl⟩)) (fun q3=>?_))))) (fun _=>Tr.aj trivial (Tr.ah ⟨rfl,rfl⟩)))
   · simp (disch:=omega) only[nV,nW] at r1
     simp (disch:=omega) only[nV,nW] at r2
     omega
   · exfalso
     rw[aY,aT] at q
     have q:dX dr lc zc lb zb=0:=by simpa using q
     simp (disch:=omega) only[nV,nW] at q2
     simp (disch:=omega) only[nV,nW] at q3
     omega
end
end Go.Eng
end
section
namespace Go.Proofs.YtgphpjdchnfjlaaDoor
open Go.ChangeShapes Go.WideShapes Go.ChangeAt Go.RowKit
theorem Tryd.own:ownKnob Tryd.prog.godebug=none:=by kernel_rfl
def AZ:List (String×DataW Unit):=[("math/bits.deBruijn32tab",Rows.laid_math_bits_deBruijn32tab),("math/bits.deBruijn64tab",Rows.laid_math_bits_deBruijn64tab)]
def t32:List Int:=Go.Lib.deBruijn32tab.map fun n:Nat=>(n:Int)
def t64:List Int:=Go.Lib.deBruijn64tab.map fun n:Nat=>(n:Int)
theorem NI:(Rows.laid_math_bits_deBruijn64tab:DataW Unit)=Lib.tabData .u8 t64:=by kernel_rfl
set_option maxRecDepth 100000 in
theorem EF {W:World} (h:laidMetH Tryd.prog AZ W):Eng.ly W:=by
 have h':laidMet Tryd.prog AZ W:=h
 obtain ⟨ps,hv,_⟩:=h'
 obtain ⟨_,_,_,_,_,_,_,_,_,_,hv,_⟩:=hv
 obtain ⟨g,t,cs,fuel,p,q,h1,h2,h3,h4,_⟩:=hv
 obtain rfl:1=g:=Option.some.inj ((show Tryd.prog.globalNamed "math/bits.deBruijn64tab" = some 1 by kernel_rfl).symm.trans h1)
 obtain rfl:139=t:=Option.some.inj ((show (Tryd.prog.globals[1]?).map (·.type)=some 139 by kernel_rfl).symm.trans h2)
 rw[NI] at h4
 have hcs:=Lib.cells_of_tab Tryd.underlying139 Tryd.underlying5 (by kernel_rfl) (by kernel_rfl) h4
 intro b o v hg
 unfold Eng.oF at hg
 split at hg
 · rename_i hbo
   obtain ⟨rfl,ho⟩:=hbo
   simp only[Option.some.injEq] at hg
   subst hg
   rw[World.var?_cell h1 h3 o,← Array.getElem?_toList,hcs,List.getElem?_map]
   have hl:Go.Lib.deBruijn64tab.length=64:=by decide
   rw[t64,List.getElem?_map,List.getElem?_eq_getElem (by omega)]
   simp only[Option.map_some,List.getD_eq_getElem?_getD,List.getElem?_eq_getElem (show o<Go.Lib.deBruijn64tab.length by omega),Option.getD_some]
 · cases hg
noncomputable def pM (os:Os):World :=
 let w0:=World.holding Tryd.prog os ⟨#[],#[],[]⟩
 let put (h:Array Obj) (g:Nat) (cs:Array Value):Array Obj:=h.modify g fun
  | .cells _ t frozen=>.cells cs t frozen
  | o=>o
 { w0 with heap:=put (put w0.heap 0 (t32.map fun z=>Value.int .u8 z).toArray) 1 (t64.map fun z=>Value.int .u8 z).toArray }
theorem G8 (os:Os) (args:Array Value):LaidIn Tryd.prog ((pM os).forCall (fun _ _=>0) ⟨#[],args,[]⟩).memory AZ [0,1] :=
 LaidIn.of_run [0,1] 8 (by kernel_rfl) (by kernel_rfl) (by kernel_rfl) (by kernel_rfl)
theorem ET (os:Os) (args:Array Value):laidMetH Tryd.prog AZ ((pM os).forCall (fun _ _=>0) ⟨#[],args,[]⟩).memory:=(G8 os args).met
end Go.Proofs.YtgphpjdchnfjlaaDoor
end
section
namespace Go.Eng.Gall
open Go.Proofs
def Nz:List b5:=[]
theorem Cs:∀ e ∈ Nz,aA Tryd.prog e:=Hs
noncomputable def E1:b5:=⟨46,[],.agg (.G [.int .i64 10,.slcT none (.I .i64 [100,110,60,110,90,95,75,100,120,125,80,110,80,80,70,200]) 4 4 true,.slcT none (.I .i64 [3,1]) 2 1 true])⟩
theorem T6:aA Tryd.prog E1:=aR Cs (H':=[⟨true,[]⟩]) (by kernel_rfl) (by kernel_rfl)
noncomputable def NA:List b5:=E1::Nz
theorem Ct:∀ e ∈ NA,aA Tryd.prog e:=aQ T6 Cs
noncomputable def E2:b5:=⟨47,[],.agg (.G [.int .i64 10,.slcT none (.I .i64 [100,110,90,110,90,95,75,100,120,125,80,110,80,80,70,200]) 4 4 true,.slcT none (.I .i64 [3,1]) 2 1 true])⟩
theorem T7:aA Tryd.prog E2:=aR Ct (H':=[⟨true,[]⟩]) (by kernel_rfl) (by kernel_rfl)
noncomputable def NB:List b5:=E2::NA
theorem Cu:∀ e ∈ NB,aA Tryd.prog e:=aQ T7 Ct
noncomputable def E3:b5:=⟨22,[.agg (.G [.int .i64 10,.slcT none (.I .i64 [100,110,60,110,90,95,75,100,120,125,80,110,80,80,70,200]) 4 4 true,.slcT none (.I .i64 [3,1]) 2 1 true])],.int .i64 0⟩
theorem T8:aA Tryd.prog E3:=aR Cu (H':=[⟨true,[]⟩]) (by kernel_rfl) (by kernel_rfl)
noncomputable def NC:List b5:=E3::NB
theorem Cv:∀ e ∈ NC,aA Tryd.prog e:=aQ T8 Cu
noncomputable def E4:b5:=⟨16,[.agg (.G [.int .i64 10,.slcT none (.I .i64 [100,110,60,110,90,95,75,100,120,125,80,110,80,80,70,200]) 4 4 true,.slcT none (.I .i64 [3,1]) 2 1 true]),.int .i64 2,.int .i64 2],.tup [.agg (.I .i64 [100,105]),.int .i64 0]⟩
theorem T9:aA Tryd.prog E4:=aR Cv (H':=[⟨true,[]⟩]) (by kernel_rfl) (by kernel_rfl)
noncomputable def ND:List b5:=E4::NC
theorem Cw:∀ e ∈ ND,aA Tryd.prog e:=aQ T9 Cv
end Go.Eng.Gall
end
section
namespace Go.Eng.Gall
open Go.Proofs
noncomputable def E5:b5:=⟨18,[.agg (.G [.int .i64 10,.slcT none (.I .i64 [100,110,60,110,90,95,75,100,120,125,80,110,80,80,70,200]) 4 4 true,.slcT none (.I .i64 [3,1]) 2 1 true]),.int .i64 2],.tup [.agg (.I .i64 [2,3]),.int .i64 0]⟩
theorem Ua:aA Tryd.prog E5:=aR Cw (H':=[⟨true,[]⟩]) (by kernel_rfl) (by kernel_rfl)
noncomputable def NF:List b5:=E5::ND
theorem Cy:∀ e ∈ NF,aA Tryd.prog e:=aQ Ua Cw
noncomputable def E6:b5:=⟨56,[.ptrT none (.G [.int .i64 10,.slcT none (.I .i64 [100,110,60,110,90,95,75,100,120,125,80,110,80,80,70,200]) 4 4 true,.slcT none (.I .i64 [3,1]) 2 1 true,.int .i64 0,.int .i64 3,.int .i64 0,.int .i64 1,.int .i64 2,.int .i64 3,.int .i64 0,.int .i64 1,.int .i64 0,.int .i64 0,.int .i64 0,.int .i64 0,.int .i64 0,.int .i64 0,.int .i64 0,.int .i64 0,.int .i64 0,.int .i64 0,.int .i64 0,.int .i64 0,.int .u64 0,.int .u64 8,.int .u64 0,.int .u64 0,.int .u64 0,.int .u64 0,.int .u64 0,.int .u64 0,.int .u64 0,.int .u64 0]) 0],.agg (.I .i64 [0,3,1,1,2,3,0,0,0,0,0,0,0,0,0,0,0,0,0,0])⟩
theorem Ub:aA Tryd.prog E6:=aR Cy (H':=[⟨true,[]⟩]) (by kernel_rfl) (by kernel_rfl)
noncomputable def NH:List b5:=E6::NF
theorem Cz:∀ e ∈ NH,aA Tryd.prog e:=aQ Ub Cy
noncomputable def E7:b5:=⟨20,[.agg (.G [.int .i64 10,.slcT none (.I .i64 [100,110,60,110,90,95,75,100,120,125,80,110,80,80,70,200]) 4 4 true,.slcT none (.I .i64 [3,1]) 2 1 true]),.int .i64 1],.tup [.agg (.I .i64 [1,1]),.int .i64 0]⟩
theorem Uc:aA Tryd.prog E7:=aR Cz (H':=[⟨true,[]⟩]) (by kernel_rfl) (by kernel_rfl)
noncomputable def NJ:List b5:=E7::NH
theorem CA:∀ e ∈ NJ,aA Tryd.prog e:=aQ Uc Cz
noncomputable def E8:b5:=⟨49,[.agg (.G [.int .i64 10,.slcT none (.I .i64 [100,110,60,110,90,95,75,100,120,125,80,110,80,80,70,200]) 4 4 true,.slcT none (.I .i64 [3,1]) 2 1 true]),.nils],.tup [.ptrT none (.G [.int .i64 10,.slcT none (.I .i64 [100,110,60,110,90,95,75,100,120,125,80,110,80,80,70,200]) 4 4 true,.slcT none (.I .i64 [3,1]) 2 1 true,.int .i64 0,.int .i64 3,.int .i64 0,.int .i64 1,.int .i64 2,.int .i64 3,.int .i64 0,.int .i64 1,.int .i64 0,.int .i64 0,.int .i64 0,.int .i64 0,.int .i64 0,.int .i64 0,.int .i64 0,.int .i64 0,.int .i64 0,.int .i64 0,.int .i64 0,.int .i64 0,.int .u64 0,.int .u64 8,.int .u64 0,.int .u64 0,.int .u64 0,.int .u64 0,.int .u64 0,.int .u64 0,.int .u64 0,.int .u64 0]) 0,.int .i64 0]⟩
theorem Ud:aA Tryd.prog E8:=aR CA (H':=[⟨true,[]⟩]) (by kernel_rfl) (by kernel_rfl)
noncomputable def NK:List b5:=E8::NJ
theorem CB:∀ e ∈ NK,aA Tryd.prog e:=aQ Ud CA
end Go.Eng.Gall
end
section
namespace Go.Eng.Gall
open Go.Proofs
noncomputable def E9:b5:=⟨65,[.ptrT none (.G [.int .i64 10,.slcT none (.I .i64 [100,110,60,110,90,95,75,100,120,125,80,110,80,80,70,200]) 4 4 true,.slcT none (.I .i64 [3,1]) 2 1 true,.int .i64 0,.int .i64 3,.int .i64 0,.int .i64 1,.int .i64 2,.int .i64 3,.int .i64 0,.int .i64 1,.int .i64 0,.int .i64 0,.int .i64 0,.int .i64 0,.int .i64 0,.int .i64 0,.int .i64 0,.int .i64 0,.int .i64 0,.int .i64 0,.int .i64 0,.int .i64 0,.int .u64 0,.int .u64 8,.int .u64 0,.int .u64 0,.int .u64 0,.int .u64 0,.int .u64 0,.int .u64 0,.int .u64 0,.int .u64 0]) 0],.tup [.agg (.G [.int .i64 0,.int .i64 0,.nils]),.bool false]⟩
theorem Ue:aA Tryd.prog E9:=aR CB (H':=[⟨true,[]⟩]) (by kernel_rfl) (by kernel_rfl)
noncomputable def NL:List b5:=E9::NK
theorem CC:∀ e ∈ NL,aA Tryd.prog e:=aQ Ue CB
noncomputable def QQ:b5:=⟨56,[.ptrT none (.G [.int .i64 10,.slcT none (.I .i64 [100,110,60,110,90,95,75,100,120,125,80,110,80,80,70,200]) 4 4 true,.slcT none (.I .i64 [3,1]) 2 1 true,.int .i64 0,.int .i64 0,.int .i64 0,.int .i64 1,.int .i64 2,.int .i64 3,.int .i64 0,.int .i64 1,.int .i64 0,.int .i64 0,.int .i64 0,.int .i64 0,.int .i64 0,.int .i64 0,.int .i64 0,.int .i64 0,.int .i64 0,.int .i64 0,.int .i64 0,.int .i64 0,.int .u64 0,.int .u64 8,.int .u64 0,.int .u64 0,.int .u64 0,.int .u64 0,.int .u64 0,.int .u64 0,.int .u64 0,.int .u64 0]) 0],.agg (.I .i64 [0,0,1,1,2,3,0,0,0,0,0,0,0,0,0,0,0,0,0,0])⟩
theorem PA:aA Tryd.prog QQ:=aR CC (H':=[⟨true,[]⟩]) (by kernel_rfl) (by kernel_rfl)
noncomputable def I4:List b5:=QQ::NL
theorem yO:∀ e ∈ I4,aA Tryd.prog e:=aQ PA CC
noncomputable def QR:b5:=⟨65,[.ptrT none (.G [.int .i64 10,.slcT none (.I .i64 [100,110,60,110,90,95,75,100,120,125,80,110,80,80,70,200]) 4 4 true,.slcT none (.I .i64 [3,1]) 2 1 true,.int .i64 0,.int .i64 0,.int .i64 0,.int .i64 1,.int .i64 2,.int .i64 3,.int .i64 0,.int .i64 1,.int .i64 0,.int .i64 0,.int .i64 0,.int .i64 0,.int .i64 0,.int .i64 0,.int .i64 0,.int .i64 0,.int .i64 0,.int .i64 0,.int .i64 0,.int .i64 0,.int .u64 0,.int .u64 8,.int .u64 0,.int .u64 0,.int .u64 0,.int .u64 0,.int .u64 0,.int .u64 0,.int .u64 0,.int .u64 0]) 0],.tup [.agg (.G [.int .i64 0,.int .i64 0,.slcT none (.I .i64 [0,3]) 1 2 false]),.bool true]⟩
theorem PB:aA Tryd.prog QR:=aR yO (H':=[⟨true,[]⟩]) (by kernel_rfl) (by kernel_rfl)
noncomputable def I5:List b5:=QR::I4
theorem yP:∀ e ∈ I5,aA Tryd.prog e:=aQ PB yO
noncomputable def QS:b5:=⟨56,[.ptrT none (.G [.int .i64 10,.slcT none (.I .i64 [100,110,60,110,90,95,75,100,120,125,80,110,80,80,70,200]) 4 4 true,.slcT none (.I .i64 [3,1]) 2 1 true,.int .i64 0,.int .i64 3,.int .i64 0,.int .i64 1,.int .i64 2,.int .i64 3,.int .i64 0,.int .i64 0,.int .i64 0,.int .i64 0,.int .i64 0,.int .i64 0,.int .i64 0,.int .i64 0,.int .i64 0,.int .i64 0,.int .i64 0,.int .i64 0,.int .i64 0,.int .i64 0,.int .u64 0,.int .u64 8,.int .u64 0,.int .u64 0,.int .u64 0,.int .u64 0,.int .u64 0,.int .u64 0,.int .u64 0,.int .u64 0]) 0],.agg (.I .i64 [0,3,1,1,2,3,0,0,0,0,0,0,0,0,0,0,0,0,0,0])⟩
theorem PC:aA Tryd.prog QS:=aR yP (H':=[⟨true,[]⟩]) (by kernel_rfl) (by kernel_rfl)
noncomputable def I6:List b5:=QS::I5
theorem yQ:∀ e ∈ I6,aA Tryd.prog e:=aQ PC yP
end Go.Eng.Gall
end
section
namespace Go.Eng.Gall
open Go.Proofs
noncomputable def QT:b5:=⟨65,[.ptrT none (.G [.int .i64 10,.slcT none (.I .i64 [100,110,60,110,90,95,75,100,120,125,80,110,80,80,70,200]) 4 4 true,.slcT none (.I .i64 [3,1]) 2 1 true,.int .i64 0,.int .i64 3,.int .i64 0,.int .i64 1,.int .i64 2,.int .i64 3,.int .i64 0,.int .i64 0,.int .i64 0,.int .i64 0,.int .i64 0,.int .i64 0,.int .i64 0,.int .i64 0,.int .i64 0,.int .i64 0,.int .i64 0,.int .i64 0,.int .i64 0,.int .i64 0,.int .u64 0,.int .u64 8,.int .u64 0,.int .u64 0,.int .u64 0,.int .u64 0,.int .u64 0,.int .u64 0,.int .u64 0,.int .u64 0]) 0],.tup [.agg (.G [.int .i64 0,.int .i64 0,.nils]),.bool false]⟩
theorem PD:aA Tryd.prog QT:=aR yQ (H':=[⟨true,[]⟩]) (by kernel_rfl) (by kernel_rfl)
noncomputable def I7:List b5:=QT::I6
theorem yR:∀ e ∈ I7,aA Tryd.prog e:=aQ PD yQ
noncomputable def QU:b5:=⟨56,[.ptrT none (.G [.int .i64 10,.slcT none (.I .i64 [100,110,60,110,90,95,75,100,120,125,80,110,80,80,70,200]) 4 4 true,.slcT none (.I .i64 [3,1]) 2 1 true,.int .i64 1,.int .i64 1,.int .i64 0,.int .i64 1,.int .i64 2,.int .i64 3,.int .i64 0,.int .i64 0,.int .i64 0,.int .i64 0,.int .i64 0,.int .i64 0,.int .i64 0,.int .i64 0,.int .i64 0,.int .i64 0,.int .i64 0,.int .i64 0,.int .i64 0,.int .i64 0,.int .u64 0,.int .u64 8,.int .u64 0,.int .u64 0,.int .u64 0,.int .u64 0,.int .u64 0,.int .u64 0,.int .u64 0,.int .u64 0]) 0],.agg (.I .i64 [1,1,1,1,2,3,0,0,0,0,0,0,0,0,0,0,0,0,0,0])⟩
theorem PE:aA Tryd.prog QU:=aR yR (H':=[⟨true,[]⟩]) (by kernel_rfl) (by kernel_rfl)
noncomputable def I8:List b5:=QU::I7
theorem yS:∀ e ∈ I8,aA Tryd.prog e:=aQ PE yR
noncomputable def QV:b5:=⟨65,[.ptrT none (.G [.int .i64 10,.slcT none (.I .i64 [100,110,60,110,90,95,75,100,120,125,80,110,80,80,70,200]) 4 4 true,.slcT none (.I .i64 [3,1]) 2 1 true,.int .i64 1,.int .i64 1,.int .i64 0,.int .i64 1,.int .i64 2,.int .i64 3,.int .i64 0,.int .i64 0,.int .i64 0,.int .i64 0,.int .i64 0,.int .i64 0,.int .i64 0,.int .i64 0,.int .i64 0,.int .i64 0,.int .i64 0,.int .i64 0,.int .i64 0,.int .i64 0,.int .u64 0,.int .u64 8,.int .u64 0,.int .u64 0,.int .u64 0,.int .u64 0,.int .u64 0,.int .u64 0,.int .u64 0,.int .u64 0]) 0],.tup [.agg (.G [.int .i64 0,.int .i64 1,.slcT none (.I .i64 [0,1,3]) 1 3 false]),.bool true]⟩
theorem PF:aA Tryd.prog QV:=aR yS (H':=[⟨true,[]⟩]) (by kernel_rfl) (by kernel_rfl)
noncomputable def I9:List b5:=QV::I8
theorem yT:∀ e ∈ I9,aA Tryd.prog e:=aQ PF yS
noncomputable def QW:b5:=⟨56,[.ptrT none (.G [.int .i64 10,.slcT none (.I .i64 [100,110,60,110,90,95,75,100,120,125,80,110,80,80,70,200]) 4 4 true,.slcT none (.I .i64 [3,1]) 2 1 true,.int .i64 0,.int .i64 3,.int .i64 1,.int .i64 1,.int .i64 2,.int .i64 3,.int .i64 0,.int .i64 0,.int .i64 0,.int .i64 0,.int .i64 0,.int .i64 0,.int .i64 0,.int .i64 0,.int .i64 0,.int .i64 0,.int .i64 0,.int .i64 0,.int .i64 0,.int .i64 0,.int .u64 0,.int .u64 8,.int .u64 0,.int .u64 0,.int .u64 0,.int .u64 0,.int .u64 0,.int .u64 0,.int .u64 0,.int .u64 0]) 0],.agg (.I .i64 [0,3,1,1,2,3,0,0,0,0,0,0,0,0,0,0,0,0,0,0])⟩
theorem PG:aA Tryd.prog QW:=aR yT (H':=[⟨true,[]⟩]) (by kernel_rfl) (by kernel_rfl)
noncomputable def Ja:List b5:=QW::I9
theorem yU:∀ e ∈ Ja,aA Tryd.prog e:=aQ PG yT
end Go.Eng.Gall
end
section
namespace Go.Eng.Gall
open Go.Proofs
noncomputable def QX:b5:=⟨65,[.ptrT none (.G [.int .i64 10,.slcT none (.I .i64 [100,110,60,110,90,95,75,100,120,125,80,110,80,80,70,200]) 4 4 true,.slcT none (.I .i64 [3,1]) 2 1 true,.int .i64 0,.int .i64 3,.int .i64 1,.int .i64 1,.int .i64 2,.int .i64 3,.int .i64 0,.int .i64 0,.int .i64 0,.int .i64 0,.int .i64 0,.int .i64 0,.int .i64 0,.int .i64 0,.int .i64 0,.int .i64 0,.int .i64 0,.int .i64 0,.int .i64 0,.int .i64 0,.int .u64 0,.int .u64 8,.int .u64 0,.int .u64 0,.int .u64 0,.int .u64 0,.int .u64 0,.int .u64 0,.int .u64 0,.int .u64 0]) 0],.tup [.agg (.G [.int .i64 0,.int .i64 0,.nils]),.bool false]⟩
theorem PH:aA Tryd.prog QX:=aR yU (H':=[⟨true,[]⟩]) (by kernel_rfl) (by kernel_rfl)
noncomputable def Jb:List b5:=QX::Ja
theorem yV:∀ e ∈ Jb,aA Tryd.prog e:=aQ PH yU
noncomputable def QY:b5:=⟨56,[.ptrT none (.G [.int .i64 10,.slcT none (.I .i64 [100,110,60,110,90,95,75,100,120,125,80,110,80,80,70,200]) 4 4 true,.slcT none (.I .i64 [3,1]) 2 1 true,.int .i64 2,.int .i64 2,.int .i64 1,.int .i64 1,.int .i64 2,.int .i64 3,.int .i64 0,.int .i64 0,.int .i64 0,.int .i64 0,.int .i64 0,.int .i64 0,.int .i64 0,.int .i64 0,.int .i64 0,.int .i64 0,.int .i64 0,.int .i64 0,.int .i64 0,.int .i64 0,.int .u64 0,.int .u64 8,.int .u64 0,.int .u64 0,.int .u64 0,.int .u64 0,.int .u64 0,.int .u64 0,.int .u64 0,.int .u64 0]) 0],.agg (.I .i64 [2,2,1,1,2,3,0,0,0,0,0,0,0,0,0,0,0,0,0,0])⟩
theorem PI:aA Tryd.prog QY:=aR yV (H':=[⟨true,[]⟩]) (by kernel_rfl) (by kernel_rfl)
noncomputable def Jc:List b5:=QY::Jb
theorem yW:∀ e ∈ Jc,aA Tryd.prog e:=aQ PI yV
noncomputable def QZ:b5:=⟨65,[.ptrT none (.G [.int .i64 10,.slcT none (.I .i64 [100,110,60,110,90,95,75,100,120,125,80,110,80,80,70,200]) 4 4 true,.slcT none (.I .i64 [3,1]) 2 1 true,.int .i64 2,.int .i64 2,.int .i64 1,.int .i64 1,.int .i64 2,.int .i64 3,.int .i64 0,.int .i64 0,.int .i64 0,.int .i64 0,.int .i64 0,.int .i64 0,.int .i64 0,.int .i64 0,.int .i64 0,.int .i64 0,.int .i64 0,.int .i64 0,.int .i64 0,.int .i64 0,.int .u64 0,.int .u64 8,.int .u64 0,.int .u64 0,.int .u64 0,.int .u64 0,.int .u64 0,.int .u64 0,.int .u64 0,.int .u64 0]) 0],.tup [.agg (.G [.int .i64 0,.int .i64 0,.nils]),.bool false]⟩
theorem PJ:aA Tryd.prog QZ:=aR yW (H':=[⟨true,[]⟩]) (by kernel_rfl) (by kernel_rfl)
noncomputable def Jd:List b5:=QZ::Jc
theorem yX:∀ e ∈ Jd,aA Tryd.prog e:=aQ PJ yW
noncomputable def Q0:b5:=⟨56,[.ptrT none (.G [.int .i64 10,.slcT none (.I .i64 [100,110,60,110,90,95,75,100,120,125,80,110,80,80,70,200]) 4 4 true,.slcT none (.I .i64 [3,1]) 2 1 true,.int .i64 2,.int .i64 2,.int .i64 1,.int .i64 1,.int .i64 3,.int .i64 3,.int .i64 0,.int .i64 0,.int .i64 0,.int .i64 0,.int .i64 0,.int .i64 0,.int .i64 0,.int .i64 0,.int .i64 0,.int .i64 0,.int .i64 0,.int .i64 0,.int .i64 0,.int .i64 0,.int .u64 0,.int .u64 8,.int .u64 0,.int .u64 0,.int .u64 0,.int .u64 0,.int .u64 0,.int .u64 0,.int .u64 0,.int .u64 0]) 0],.agg (.I .i64 [2,2,1,1,3,3,0,0,0,0,0,0,0,0,0,0,0,0,0,0])⟩
theorem PK:aA Tryd.prog Q0:=aR yX (H':=[⟨true,[]⟩]) (by kernel_rfl) (by kernel_rfl)
noncomputable def Je:List b5:=Q0::Jd
theorem yY:∀ e ∈ Je,aA Tryd.prog e:=aQ PK yX
end Go.Eng.Gall
end
section
namespace Go.Eng.Gall
open Go.Proofs
noncomputable def Q1:b5:=⟨65,[.ptrT none (.G [.int .i64 10,.slcT none (.I .i64 [100,110,60,110,90,95,75,100,120,125,80,110,80,80,70,200]) 4 4 true,.slcT none (.I .i64 [3,1]) 2 1 true,.int .i64 2,.int .i64 2,.int .i64 1,.int .i64 1,.int .i64 3,.int .i64 3,.int .i64 0,.int .i64 0,.int .i64 0,.int .i64 0,.int .i64 0,.int .i64 0,.int .i64 0,.int .i64 0,.int .i64 0,.int .i64 0,.int .i64 0,.int .i64 0,.int .i64 0,.int .i64 0,.int .u64 0,.int .u64 8,.int .u64 0,.int .u64 0,.int .u64 0,.int .u64 0,.int .u64 0,.int .u64 0,.int .u64 0,.int .u64 0]) 0],.tup [.agg (.G [.int .i64 0,.int .i64 0,.nils]),.bool false]⟩
theorem PL:aA Tryd.prog Q1:=aR yY (H':=[⟨true,[]⟩]) (by kernel_rfl) (by kernel_rfl)
noncomputable def Jf:List b5:=Q1::Je
theorem yZ:∀ e ∈ Jf,aA Tryd.prog e:=aQ PL yY
noncomputable def Q2:b5:=⟨74,[.ptrT none (.G [.int .i64 10,.slcT none (.I .i64 [100,110,60,110,90,95,75,100,120,125,80,110,80,80,70,200]) 4 4 true,.slcT none (.I .i64 [3,1]) 2 1 true,.int .i64 0,.int .i64 3,.int .i64 0,.int .i64 1,.int .i64 2,.int .i64 3,.int .i64 0,.int .i64 1,.int .i64 0,.int .i64 0,.int .i64 0,.int .i64 0,.int .i64 0,.int .i64 0,.int .i64 0,.int .i64 0,.int .i64 0,.int .i64 0,.int .i64 0,.int .i64 0,.int .u64 0,.int .u64 8,.int .u64 0,.int .u64 0,.int .u64 0,.int .u64 0,.int .u64 0,.int .u64 0,.int .u64 0,.int .u64 0]) 0],.slcT none (.I .i64 [3,1,0,2]) 1 4 false⟩
theorem PM:aA Tryd.prog Q2:=aR yZ (H':=[⟨true,[]⟩]) (by kernel_rfl) (by kernel_rfl)
noncomputable def Jg:List b5:=Q2::Jf
theorem y8:∀ e ∈ Jg,aA Tryd.prog e:=aQ PM yZ
noncomputable def Q3:b5:=⟨38,[.agg (.G [.int .i64 10,.slcT none (.I .i64 [100,110,60,110,90,95,75,100,120,125,80,110,80,80,70,200]) 4 4 true,.slcT none (.I .i64 [3,1]) 2 1 true])],.tup [.slcT none (.I .i64 [3,1,0,2]) 1 4 true,.int .i64 0]⟩
theorem PN:aA Tryd.prog Q3:=aR y8 (H':=[⟨true,[]⟩]) (by kernel_rfl) (by kernel_rfl)
noncomputable def Jh:List b5:=Q3::Jg
theorem y9:∀ e ∈ Jh,aA Tryd.prog e:=aQ PN y8
noncomputable def Q4:b5:=⟨22,[.agg (.G [.int .i64 10,.slcT none (.I .i64 [100,110,90,110,90,95,75,100,120,125,80,110,80,80,70,200]) 4 4 true,.slcT none (.I .i64 [3,1]) 2 1 true])],.int .i64 0⟩
theorem PO:aA Tryd.prog Q4:=aR y9 (H':=[⟨true,[]⟩]) (by kernel_rfl) (by kernel_rfl)
noncomputable def Ji:List b5:=Q4::Jh
theorem za:∀ e ∈ Ji,aA Tryd.prog e:=aQ PO y9
end Go.Eng.Gall
end
section
namespace Go.Eng.Gall
open Go.Proofs
noncomputable def Q5:b5:=⟨49,[.agg (.G [.int .i64 10,.slcT none (.I .i64 [100,110,90,110,90,95,75,100,120,125,80,110,80,80,70,200]) 4 4 true,.slcT none (.I .i64 [3,1]) 2 1 true]),.nils],.tup [.ptrT none (.G [.int .i64 10,.slcT none (.I .i64 [100,110,90,110,90,95,75,100,120,125,80,110,80,80,70,200]) 4 4 true,.slcT none (.I .i64 [3,1]) 2 1 true,.int .i64 0,.int .i64 1,.int .i64 0,.int .i64 1,.int .i64 2,.int .i64 3,.int .i64 0,.int .i64 1,.int .i64 0,.int .i64 0,.int .i64 0,.int .i64 0,.int .i64 0,.int .i64 0,.int .i64 0,.int .i64 0,.int .i64 0,.int .i64 0,.int .i64 0,.int .i64 0,.int .u64 0,.int .u64 8,.int .u64 0,.int .u64 0,.int .u64 0,.int .u64 0,.int .u64 0,.int .u64 0,.int .u64 0,.int .u64 0]) 0,.int .i64 0]⟩
theorem PQ:aA Tryd.prog Q5:=aR za (H':=[⟨true,[]⟩]) (by kernel_rfl) (by kernel_rfl)
noncomputable def Jj:List b5:=Q5::Ji
theorem zd:∀ e ∈ Jj,aA Tryd.prog e:=aQ PQ za
noncomputable def Q6:b5:=⟨56,[.ptrT none (.G [.int .i64 10,.slcT none (.I .i64 [100,110,90,110,90,95,75,100,120,125,80,110,80,80,70,200]) 4 4 true,.slcT none (.I .i64 [3,1]) 2 1 true,.int .i64 0,.int .i64 1,.int .i64 0,.int .i64 1,.int .i64 2,.int .i64 3,.int .i64 0,.int .i64 1,.int .i64 0,.int .i64 0,.int .i64 0,.int .i64 0,.int .i64 0,.int .i64 0,.int .i64 0,.int .i64 0,.int .i64 0,.int .i64 0,.int .i64 0,.int .i64 0,.int .u64 0,.int .u64 8,.int .u64 0,.int .u64 0,.int .u64 0,.int .u64 0,.int .u64 0,.int .u64 0,.int .u64 0,.int .u64 0]) 0],.agg (.I .i64 [0,1,1,1,2,3,0,0,0,0,0,0,0,0,0,0,0,0,0,0])⟩
theorem PR:aA Tryd.prog Q6:=aR zd (H':=[⟨true,[]⟩]) (by kernel_rfl) (by kernel_rfl)
noncomputable def Jk:List b5:=Q6::Jj
theorem ze:∀ e ∈ Jk,aA Tryd.prog e:=aQ PR zd
noncomputable def Q7:b5:=⟨65,[.ptrT none (.G [.int .i64 10,.slcT none (.I .i64 [100,110,90,110,90,95,75,100,120,125,80,110,80,80,70,200]) 4 4 true,.slcT none (.I .i64 [3,1]) 2 1 true,.int .i64 0,.int .i64 1,.int .i64 0,.int .i64 1,.int .i64 2,.int .i64 3,.int .i64 0,.int .i64 1,.int .i64 0,.int .i64 0,.int .i64 0,.int .i64 0,.int .i64 0,.int .i64 0,.int .i64 0,.int .i64 0,.int .i64 0,.int .i64 0,.int .i64 0,.int .i64 0,.int .u64 0,.int .u64 8,.int .u64 0,.int .u64 0,.int .u64 0,.int .u64 0,.int .u64 0,.int .u64 0,.int .u64 0,.int .u64 0]) 0],.tup [.agg (.G [.int .i64 0,.int .i64 1,.slcT none (.I .i64 [0,1,3]) 1 3 false]),.bool true]⟩
theorem PS:aA Tryd.prog Q7:=aR ze (H':=[⟨true,[]⟩]) (by kernel_rfl) (by kernel_rfl)
noncomputable def Jl:List b5:=Q7::Jk
theorem zf:∀ e ∈ Jl,aA Tryd.prog e:=aQ PS ze
noncomputable def Q8:b5:=⟨74,[.ptrT none (.G [.int .i64 10,.slcT none (.I .i64 [100,110,90,110,90,95,75,100,120,125,80,110,80,80,70,200]) 4 4 true,.slcT none (.I .i64 [3,1]) 2 1 true,.int .i64 0,.int .i64 1,.int .i64 0,.int .i64 1,.int .i64 2,.int .i64 3,.int .i64 0,.int .i64 1,.int .i64 0,.int .i64 0,.int .i64 0,.int .i64 0,.int .i64 0,.int .i64 0,.int .i64 0,.int .i64 0,.int .i64 0,.int .i64 0,.int .i64 0,.int .i64 0,.int .u64 0,.int .u64 8,.int .u64 0,.int .u64 0,.int .u64 0,.int .u64 0,.int .u64 0,.int .u64 0,.int .u64 0,.int .u64 0]) 0],.nils⟩
theorem PT:aA Tryd.prog Q8:=aR zf (H':=[⟨true,[]⟩]) (by kernel_rfl) (by kernel_rfl)
noncomputable def Jm:List b5:=Q8::Jl
theorem zg:∀ e ∈ Jm,aA Tryd.prog e:=aQ PT zf
end Go.Eng.Gall
end
section
namespace Go.Eng.Gall
open Go.Proofs
noncomputable def Q9:b5:=⟨38,[.agg (.G [.int .i64 10,.slcT none (.I .i64 [100,110,90,110,90,95,75,100,120,125,80,110,80,80,70,200]) 4 4 true,.slcT none (.I .i64 [3,1]) 2 1 true])],.tup [.nils,.int .i64 13]⟩
theorem PU:aA Tryd.prog Q9:=aR zg (H':=[⟨true,[]⟩]) (by kernel_rfl) (by kernel_rfl)
noncomputable def Jn:List b5:=Q9::Jm
theorem zh:∀ e ∈ Jn,aA Tryd.prog e:=aQ PU zg
noncomputable def Ra:b5:=⟨25,[.agg (.G [.int .i64 10,.slcT none (.I .i64 [100,110,90,110,90,95,75,100,120,125,80,110,80,80,70,200]) 4 4 true,.slcT none (.I .i64 [3,1]) 2 1 true])],.tup [.agg (.G [.int .i64 0,.int .i64 1,.slcT none (.I .i64 [0,1,3]) 1 3 false]),.int .i64 0]⟩
theorem PV:aA Tryd.prog Ra:=aR zh (H':=[⟨true,[]⟩]) (by kernel_rfl) (by kernel_rfl)
noncomputable def Jo:List b5:=Ra::Jn
theorem zi:∀ e ∈ Jo,aA Tryd.prog e:=aQ PV zh
noncomputable def Rb:b5:=⟨56,[.ptrT none (.G [.int .i64 10,.slcT none (.I .i64 [100,110,60,110,90,95,75,100,120,125,80,110,80,80,70,200]) 4 4 true,.slcT none (.I .i64 [3,1]) 2 1 true,.int .i64 1,.int .i64 1,.int .i64 0,.int .i64 1,.int .i64 2,.int .i64 3,.int .i64 0,.int .i64 1,.int .i64 0,.int .i64 0,.int .i64 0,.int .i64 0,.int .i64 0,.int .i64 0,.int .i64 0,.int .i64 0,.int .i64 0,.int .i64 0,.int .i64 0,.int .i64 0,.int .u64 0,.int .u64 8,.int .u64 0,.int .u64 0,.int .u64 0,.int .u64 0,.int .u64 0,.int .u64 0,.int .u64 0,.int .u64 0]) 0],.agg (.I .i64 [1,1,1,1,2,3,0,0,0,0,0,0,0,0,0,0,0,0,0,0])⟩
theorem PW:aA Tryd.prog Rb:=aR zi (H':=[⟨true,[]⟩]) (by kernel_rfl) (by kernel_rfl)
noncomputable def Jp:List b5:=Rb::Jo
theorem zj:∀ e ∈ Jp,aA Tryd.prog e:=aQ PW zi
noncomputable def Rc:b5:=⟨65,[.ptrT none (.G [.int .i64 10,.slcT none (.I .i64 [100,110,60,110,90,95,75,100,120,125,80,110,80,80,70,200]) 4 4 true,.slcT none (.I .i64 [3,1]) 2 1 true,.int .i64 1,.int .i64 1,.int .i64 0,.int .i64 1,.int .i64 2,.int .i64 3,.int .i64 0,.int .i64 1,.int .i64 0,.int .i64 0,.int .i64 0,.int .i64 0,.int .i64 0,.int .i64 0,.int .i64 0,.int .i64 0,.int .i64 0,.int .i64 0,.int .i64 0,.int .i64 0,.int .u64 0,.int .u64 8,.int .u64 0,.int .u64 0,.int .u64 0,.int .u64 0,.int .u64 0,.int .u64 0,.int .u64 0,.int .u64 0]) 0],.tup [.agg (.G [.int .i64 0,.int .i64 1,.slcT none (.I .i64 [0,1,3]) 1 3 false]),.bool true]⟩
theorem PX:aA Tryd.prog Rc:=aR zj (H':=[⟨true,[]⟩]) (by kernel_rfl) (by kernel_rfl)
noncomputable def Jq:List b5:=Rc::Jp
theorem zk:∀ e ∈ Jq,aA Tryd.prog e:=aQ PX zj
end Go.Eng.Gall
end
section
namespace Go.Eng.Gall
open Go.Proofs
noncomputable def Re:b5:=⟨56,[.ptrT none (.G [.int .i64 10,.slcT none (.I .i64 [100,110,60,110,90,95,75,100,120,125,80,110,80,80,70,200]) 4 4 true,.slcT none (.I .i64 [3,1]) 2 1 true,.int .i64 2,.int .i64 2,.int .i64 0,.int .i64 1,.int .i64 2,.int .i64 3,.int .i64 0,.int .i64 1,.int .i64 0,.int .i64 0,.int .i64 0,.int .i64 0,.int .i64 0,.int .i64 0,.int .i64 0,.int .i64 0,.int .i64 0,.int .i64 0,.int .i64 0,.int .i64 0,.int .u64 0,.int .u64 8,.int .u64 0,.int .u64 0,.int .u64 0,.int .u64 0,.int .u64 0,.int .u64 0,.int .u64 0,.int .u64 0]) 0],.agg (.I .i64 [2,2,1,1,2,3,0,0,0,0,0,0,0,0,0,0,0,0,0,0])⟩
theorem PY:aA Tryd.prog Re:=aR zk (H':=[⟨true,[]⟩]) (by kernel_rfl) (by kernel_rfl)
noncomputable def Jr:List b5:=Re::Jq
theorem zm:∀ e ∈ Jr,aA Tryd.prog e:=aQ PY zk
noncomputable def Rf:b5:=⟨65,[.ptrT none (.G [.int .i64 10,.slcT none (.I .i64 [100,110,60,110,90,95,75,100,120,125,80,110,80,80,70,200]) 4 4 true,.slcT none (.I .i64 [3,1]) 2 1 true,.int .i64 2,.int .i64 2,.int .i64 0,.int .i64 1,.int .i64 2,.int .i64 3,.int .i64 0,.int .i64 1,.int .i64 0,.int .i64 0,.int .i64 0,.int .i64 0,.int .i64 0,.int .i64 0,.int .i64 0,.int .i64 0,.int .i64 0,.int .i64 0,.int .i64 0,.int .i64 0,.int .u64 0,.int .u64 8,.int .u64 0,.int .u64 0,.int .u64 0,.int .u64 0,.int .u64 0,.int .u64 0,.int .u64 0,.int .u64 0]) 0],.tup [.agg (.G [.int .i64 0,.int .i64 0,.nils]),.bool false]⟩
theorem PZ:aA Tryd.prog Rf:=aR zm (H':=[⟨true,[]⟩]) (by kernel_rfl) (by kernel_rfl)
noncomputable def Js:List b5:=Rf::Jr
theorem zn:∀ e ∈ Js,aA Tryd.prog e:=aQ PZ zm
noncomputable def Rg:b5:=⟨56,[.ptrT none (.G [.int .i64 10,.slcT none (.I .i64 [100,110,60,110,90,95,75,100,120,125,80,110,80,80,70,200]) 4 4 true,.slcT none (.I .i64 [3,1]) 2 1 true,.int .i64 3,.int .i64 3,.int .i64 0,.int .i64 1,.int .i64 2,.int .i64 3,.int .i64 0,.int .i64 1,.int .i64 0,.int .i64 0,.int .i64 0,.int .i64 0,.int .i64 0,.int .i64 0,.int .i64 0,.int .i64 0,.int .i64 0,.int .i64 0,.int .i64 0,.int .i64 0,.int .u64 0,.int .u64 8,.int .u64 0,.int .u64 0,.int .u64 0,.int .u64 0,.int .u64 0,.int .u64 0,.int .u64 0,.int .u64 0]) 0],.agg (.I .i64 [3,3,1,1,2,3,0,0,0,0,0,0,0,0,0,0,0,0,0,0])⟩
theorem P0:aA Tryd.prog Rg:=aR zn (H':=[⟨true,[]⟩]) (by kernel_rfl) (by kernel_rfl)
noncomputable def Jt:List b5:=Rg::Js
theorem zo:∀ e ∈ Jt,aA Tryd.prog e:=aQ P0 zn
noncomputable def Rh:b5:=⟨65,[.ptrT none (.G [.int .i64 10,.slcT none (.I .i64 [100,110,60,110,90,95,75,100,120,125,80,110,80,80,70,200]) 4 4 true,.slcT none (.I .i64 [3,1]) 2 1 true,.int .i64 3,.int .i64 3,.int .i64 0,.int .i64 1,.int .i64 2,.int .i64 3,.int .i64 0,.int .i64 1,.int .i64 0,.int .i64 0,.int .i64 0,.int .i64 0,.int .i64 0,.int .i64 0,.int .i64 0,.int .i64 0,.int .i64 0,.int .i64 0,.int .i64 0,.int .i64 0,.int .u64 0,.int .u64 8,.int .u64 0,.int .u64 0,.int .u64 0,.int .u64 0,.int .u64 0,.int .u64 0,.int .u64 0,.int .u64 0]) 0],.tup [.agg (.G [.int .i64 0,.int .i64 0,.nils]),.bool false]⟩
theorem P1:aA Tryd.prog Rh:=aR zo (H':=[⟨true,[]⟩]) (by kernel_rfl) (by kernel_rfl)
noncomputable def Ju:List b5:=Rh::Jt
theorem zp:∀ e ∈ Ju,aA Tryd.prog e:=aQ P1 zo
end Go.Eng.Gall
end
section
namespace Go.Eng.Gall
open Go.Proofs
noncomputable def Ri:b5:=⟨30,[.agg (.G [.int .i64 10,.slcT none (.I .i64 [100,110,60,110,90,95,75,100,120,125,80,110,80,80,70,200]) 4 4 true,.slcT none (.I .i64 [3,1]) 2 1 true]),.int .i64 0],.tup [.slcT none (.I .i64 [2,3]) 1 2 false,.int .i64 0]⟩
theorem P2:aA Tryd.prog Ri:=aR zp (H':=[⟨true,[]⟩]) (by kernel_rfl) (by kernel_rfl)
noncomputable def Jv:List b5:=Ri::Ju
theorem zq:∀ e ∈ Jv,aA Tryd.prog e:=aQ P2 zp
noncomputable def Rj:b5:=⟨56,[.ptrT none (.G [.int .i64 10,.slcT none (.I .i64 [100,110,60,110,90,95,75,100,120,125,80,110,80,80,70,200]) 4 4 true,.slcT none (.I .i64 [3,1]) 2 1 true,.int .i64 0,.int .i64 3,.int .i64 0,.int .i64 1,.int .i64 2,.int .i64 3,.int .i64 0,.int .i64 1,.int .i64 0,.int .i64 0,.int .i64 0,.int .i64 0,.int .i64 0,.int .i64 0,.int .i64 0,.int .i64 0,.int .i64 0,.int .i64 0,.int .i64 0,.int .i64 0,.int .u64 0,.int .u64 9,.int .u64 0,.int .u64 0,.int .u64 0,.int .u64 0,.int .u64 0,.int .u64 0,.int .u64 0,.int .u64 0]) 0],.agg (.I .i64 [0,0,1,1,2,3,0,0,0,0,0,0,0,0,0,0,0,0,0,0])⟩
theorem P3:aA Tryd.prog Rj:=aR zq (H':=[⟨true,[]⟩]) (by kernel_rfl) (by kernel_rfl)
noncomputable def Jw:List b5:=Rj::Jv
theorem zt:∀ e ∈ Jw,aA Tryd.prog e:=aQ P3 zq
noncomputable def Rk:b5:=⟨65,[.ptrT none (.G [.int .i64 10,.slcT none (.I .i64 [100,110,60,110,90,95,75,100,120,125,80,110,80,80,70,200]) 4 4 true,.slcT none (.I .i64 [3,1]) 2 1 true,.int .i64 0,.int .i64 3,.int .i64 0,.int .i64 1,.int .i64 2,.int .i64 3,.int .i64 0,.int .i64 1,.int .i64 0,.int .i64 0,.int .i64 0,.int .i64 0,.int .i64 0,.int .i64 0,.int .i64 0,.int .i64 0,.int .i64 0,.int .i64 0,.int .i64 0,.int .i64 0,.int .u64 0,.int .u64 9,.int .u64 0,.int .u64 0,.int .u64 0,.int .u64 0,.int .u64 0,.int .u64 0,.int .u64 0,.int .u64 0]) 0],.tup [.agg (.G [.int .i64 0,.int .i64 0,.slcT none (.I .i64 [0,3]) 1 2 false]),.bool true]⟩
theorem P4:aA Tryd.prog Rk:=aR zt (H':=[⟨true,[]⟩]) (by kernel_rfl) (by kernel_rfl)
noncomputable def Jx:List b5:=Rk::Jw
theorem zu:∀ e ∈ Jx,aA Tryd.prog e:=aQ P4 zt
noncomputable def Rl:b5:=⟨32,[.agg (.G [.int .i64 10,.slcT none (.I .i64 [100,110,60,110,90,95,75,100,120,125,80,110,80,80,70,200]) 4 4 true,.slcT none (.I .i64 [3,1]) 2 1 true]),.int .i64 1,.int .i64 0],.tup [.bool true,.int .i64 0]⟩
theorem P5:aA Tryd.prog Rl:=aR zu (H':=[⟨true,[]⟩]) (by kernel_rfl) (by kernel_rfl)
noncomputable def Jy:List b5:=Rl::Jx
theorem F2:∀ e ∈ Jy,aA Tryd.prog e:=aQ P5 zu
end Go.Eng.Gall
end
section
namespace Go.Eng.Gall
open Go.Proofs
noncomputable def Rm:b5:=⟨73,[.ptrT none (.G [.int .i64 10,.slcT none (.I .i64 [100,110,60,110,90,95,75,100,120,125,80,110,80,80,70,200]) 4 4 true,.slcT none (.I .i64 [3,1]) 2 1 true,.int .i64 0,.int .i64 3,.int .i64 0,.int .i64 1,.int .i64 2,.int .i64 3,.int .i64 0,.int .i64 1,.int .i64 0,.int .i64 0,.int .i64 0,.int .i64 0,.int .i64 0,.int .i64 0,.int .i64 0,.int .i64 0,.int .i64 0,.int .i64 0,.int .i64 0,.int .i64 0,.int .u64 0,.int .u64 8,.int .u64 0,.int .u64 0,.int .u64 0,.int .u64 0,.int .u64 0,.int .u64 0,.int .u64 0,.int .u64 0]) 0],.int .i64 2⟩
theorem P6:aA Tryd.prog Rm:=Fv (dr:=10) (lc:=4) (zl:=[100,110,60,110,90,95,75,100,120,125,80,110,80,80,70,200]) (lb:=1) (bl:=[3,1]) (f1:=true) (f2:=true) (Wl:=[0,3,0,1,2,3,0,1,0,0,0,0,0,0,0,0,0,0,0,0]) (Bl:=[0,8,0,0,0,0,0,0,0,0]) (v:=2) rfl (by decide) rfl rfl rfl rfl (by kernel_rfl)
noncomputable def Jz:List b5:=Rm::Jy
theorem zw:∀ e ∈ Jz,aA Tryd.prog e:=aQ P6 F2
noncomputable def Rn:b5:=⟨34,[.agg (.G [.int .i64 10,.slcT none (.I .i64 [100,110,60,110,90,95,75,100,120,125,80,110,80,80,70,200]) 4 4 true,.slcT none (.I .i64 [3,1]) 2 1 true])],.tup [.int .i64 2,.int .i64 0]⟩
theorem P7:aA Tryd.prog Rn:=aR zw (H':=[⟨true,[]⟩]) (by kernel_rfl) (by kernel_rfl)
noncomputable def JA:List b5:=Rn::Jz
theorem zx:∀ e ∈ JA,aA Tryd.prog e:=aQ P7 zw
noncomputable def Ro:b5:=⟨18,[.agg (.G [.int .i64 10,.slcT none (.I .i64 [100,110,60,110,90,95,75,100,120,125,80,110,80,80,70,200]) 4 4 true,.slcT none (.I .i64 [3,1]) 2 1 true]),.int .i64 0],.tup [.agg (.I .i64 [0,3]),.int .i64 0]⟩
theorem P8:aA Tryd.prog Ro:=aR zx (H':=[⟨true,[]⟩]) (by kernel_rfl) (by kernel_rfl)
noncomputable def JB:List b5:=Ro::JA
theorem zy:∀ e ∈ JB,aA Tryd.prog e:=aQ P8 zx
noncomputable def Rp:b5:=⟨18,[.agg (.G [.int .i64 10,.slcT none (.I .i64 [100,110,60,110,90,95,75,100,120,125,80,110,80,80,70,200]) 4 4 true,.slcT none (.I .i64 [3,1]) 2 1 true]),.int .i64 1],.tup [.agg (.I .i64 [0,1]),.int .i64 0]⟩
theorem P9:aA Tryd.prog Rp:=aR zy (H':=[⟨true,[]⟩]) (by kernel_rfl) (by kernel_rfl)
noncomputable def JC:List b5:=Rp::JB
theorem zA:∀ e ∈ JC,aA Tryd.prog e:=aQ P9 zy
end Go.Eng.Gall
end
