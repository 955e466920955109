/- Gall: the law of stronger colours, whole. -/
import Derived.Test.YtgphpjdchnfjlaaDoorV4Gcfx6
import Derived.Test.YtgphpjdchnfjlaaDoorV4Gp2x6
import Derived.Test.YtgphpjdchnfjlaaDoorRows
import Derived.Test.YtgphpjdchnfjlaaDoorChecked
import Derived.Test.YtgphpjdchnfjlaaDoorTie
import Derived.Test.YtgphpjdchnfjlaaDoorCards
import Derived.ProofKit
import Derived.Lib.LaidIn
import Derived.Lib.LaidTab
import Derived.FnData
import Derived.Handed
import Derived.SevenTiedAt
import Derived.Test.YtgphpjdchnfjlaaDoorV4GaKx6
set_option linter.unusedVariables false
set_option linter.unusedSimpArgs false
set_option maxRecDepth 100000
section
namespace Go.Eng
open Go.Proofs Go.Eng.Gall
section
variable (dr:Int) (lc:Nat) (zc:Nat→Int) (lb:Nat) (zb:Nat→Int) (n:Nat) (H:aa) (u tm wh:Int) (mo:Nat) (zo:Nat→Int)
set_option maxHeartbeats 4000000 in
theorem PR (h0:c9 dr lc zc lb zb=0) (hmo:mo≤20) (hu:0≤u∧u≤65535) (htm:0≤tm∧tm≤255) (hwh:0≤wh∧wh≤255) (ho:JW dr lc zc lb zb=none):cd (n+19) (.fn 10) [bG dr lc zc lb zb,.int .u16 u,.int .u8 tm,.int .u8 wh,aY mo zo false] H=some (.bool true,H):=by
 obtain ⟨k1,k2,k3,k4,k5,k6⟩:=vV h0;obtain ⟨M,rfl⟩:∃ M,lc=M+1:=⟨lc-1,by omega⟩
 obtain ⟨t,ht⟩:∃ t:Int,1+tm % 4=t:=⟨_,rfl⟩
 have htb:1≤t∧t≤4:=by omega
 obtain ⟨k,hk⟩:∃ k:Int,wh % ((M+1:Nat):Int)=k:=⟨_,rfl⟩
 have et:a6 .i64 (Int.ofNat 1) (jo .i64 (nh .i64 tm) (Int.ofNat 4))=t:=by
  rw[oA (by omega) (by omega),iD,Int.tmod_eq_emod_of_nonneg htm.1,Ez,← ht]<;>simp only[Int.ofNat_eq_natCast]<;>omega
 have ek:jo .i64 (nh .i64 wh) (Int.ofNat (M+1))=k:=by
  rw[oA (by omega) (by omega),iD,Int.tmod_eq_emod_of_nonneg hwh.1,← hk];rfl
 have hm:1≤t*dr∧t*dr≤400:=by
  rcases (show t=1∨t=2∨t=3∨t=4 by omega) with e | e | e | e<;>subst e<;>omega
 have ed:gk .i64 t dr=t*dr:=by rw[kY,gU (by omega) (by omega)]
 have hX:dg dr (M+1) (ir (fun i=>zc i+u) (M+1))=dg dr (M+1) zc:=KX (u:=u) fun i hi=>by unfold ir;rw[if_pos hi]
 have hY:dg (t*dr) (M+1) (ir (fun i=>t*zc i) (M+1))=dg dr (M+1) zc:=Ae (t:=t) (by omega) fun i hi=>by unfold ir;rw[if_pos hi]
 have lp:=TO (n+16) dr (M+1) zc lb zb H u t k (t*dr) mo zo k1.2 k4 hu htb;have T:=Sr (n+16) dr (M+1) zc lb zb H u tm wh t k (t*dr) mo zo M ((M+1)*4) (ir (fun i=>zc i+u) (M+1)) (ir (fun i=>t*zc i) (M+1)) eG (K0 dr (M+1) zc lb zb (t*dr) (ir (fun i=>zc i+u) (M+1)) (ir (fun i=>t*zc i) (M+1))) (Hp dr (M+1) zc lb zb (t*dr) (ir (fun i=>zc i+u) (M+1)) (ir (fun i=>t*zc i) (M+1))) (Dp dr (M+1) zc lb zb (t*dr) (ir (fun i=>zc i+u) (M+1)) (ir (fun i=>t*zc i) (M+1)) (.int .i64 k)) (Dp dr (M+1) zc lb zb (t*dr) (ir (fun i=>zc i+u) (M+1)) (ir (fun i=>t*zc i) (M+1)) (aY mo zo false)) (Q.cntF (M+1) (dg dr (M+1) zc) (jr lb zb)) (xp dr (M+1) zc lb zb k).1 (xp dr (M+1) zc lb zb k).2.1 (xp dr (M+1) zc lb zb k).2.2 (Ln (M+1) (dg dr (M+1) zc) lb zb mo zo) (az (qK (Fx dr (M+1) zc lb zb)));rw[et,ek,ed,dH,dH] at T;have htb:=fun q=>dk (KU dr (M+1) zc lb zb (t*dr) (ir (fun i=>zc i+u) (M+1)) (ir (fun i=>t*zc i) (M+1)) n h0 hX hY k mo zo (by omega) (.tup [aY (M+1) (az (qK (Fx dr (M+1) zc lb zb))) false,.int .i64 (Int.ofNat 0)]) (by unfold JY;rw[if_pos ho];rfl) q) (fun H=>by
  rw[show n+16+q=n+15+q+1 by omega];exact PV (n+15+q) (M+1) (az (qK (Fx dr (M+1) zc lb zb))) H (by omega))
 refine bB (n:=n+18) Tryd.func10 rfl rfl rfl T (kg _ (n+16) 2 htb) (a8 (ai _ _) TE (fun x hx=>fk hx (by simp only[eC.st,aP];exact lp))) (aj _ _) ?_;clear T htb lp;generalize xp dr (M+1) zc lb zb k=wx;generalize az (qK (Fx dr (M+1) zc lb zb))=o;generalize Q.cntF (M+1) (dg dr (M+1) zc) (jr lb zb)=cn;generalize Ln (M+1) (dg dr (M+1) zc) lb zb mo zo=ch;generalize ir (fun i=>zc i+u) (M+1)=X at *;generalize ir (fun i=>t*zc i) (M+1)=Y at *;have r1:jo .i64 (nh .i64 tm) (Int.ofNat 4)=t-1:=by
  rw[oA (by omega) (by omega),iD,Int.tmod_eq_emod_of_nonneg htm.1,← ht];simp only[Int.ofNat_eq_natCast];omega
 repeat' first
  | (refine Tr.af (fun hc=>?_) (fun hc=>?_)<;>(try simp (disch:=omega) only[nV,nW] at hc)<;>(try (exfalso;omega)))
  | (refine Tr.ae ?_ ?_;· ((try simp (disch:=omega) only[nV,nW]);try omega))
  | (refine Tr.al ?_ ?_;· first | exact trivial | rfl | exact ⟨rfl,rfl⟩ | exact ⟨_,rfl,.inl rfl⟩ | exact ⟨_,rfl,.inr (.inl rfl)⟩ | exact ⟨_,rfl,.inr (.inr rfl)⟩ | exact ⟨_,rfl,.inr (.inl ⟨rfl,by assumption⟩)⟩ | exact ⟨_,rfl,.inr (.inr ⟨rfl,by assumption⟩)⟩)
  | fail
 all_goals first
  | exact Tr.ah ⟨rfl,rfl⟩
  | fail
set_option maxHeartbeats 4000000 in
theorem PS (h0:c9 dr lc zc lb zb=0) (hmo:mo≤20) (hu:0≤u∧u≤65535) (htm:0≤tm∧tm≤255) (hwh:0≤wh∧wh≤255) (ho:¬ JW dr lc zc lb zb=none):cd (n+19) (.fn 10) [bG dr lc zc lb zb,.int .u16 u,.int .u8 tm,.int .u8 wh,aY mo zo false] H=some (.bool true,H):=by
 obtain ⟨k1,k2,k3,k4,k5,k6⟩:=vV h0;obtain ⟨M,rfl⟩:∃ M,lc=M+1:=⟨lc-1,by omega⟩
 obtain ⟨t,ht⟩:∃ t:Int,1+tm % 4=t:=⟨_,rfl⟩
 have htb:1≤t∧t≤4:=by omega
 obtain ⟨k,hk⟩:∃ k:Int,wh % ((M+1:Nat):Int)=k:=⟨_,rfl⟩
 have et:a6 .i64 (Int.ofNat 1) (jo .i64 (nh .i64 tm) (Int.ofNat 4))=t:=by
  rw[oA (by omega) (by omega),iD,Int.tmod_eq_emod_of_nonneg htm.1,Ez,← ht]<;>simp only[Int.ofNat_eq_natCast]<;>omega
 have ek:jo .i64 (nh .i64 wh) (Int.ofNat (M+1))=k:=by
  rw[oA (by omega) (by omega),iD,Int.tmod_eq_emod_of_nonneg hwh.1,← hk];rfl
 have hm:1≤t*dr∧t*dr≤400:=by
  rcases (show t=1∨t=2∨t=3∨t=4 by omega) with e | e | e | e<;>subst e<;>omega
 have ed:gk .i64 t dr=t*dr:=by rw[kY,gU (by omega) (by omega)]
 have hX:dg dr (M+1) (ir (fun i=>zc i+u) (M+1))=dg dr (M+1) zc:=KX (u:=u) fun i hi=>by unfold ir;rw[if_pos hi]
 have hY:dg (t*dr) (M+1) (ir (fun i=>t*zc i) (M+1))=dg dr (M+1) zc:=Ae (t:=t) (by omega) fun i hi=>by unfold ir;rw[if_pos hi]
 have lp:=TO (n+16) dr (M+1) zc lb zb H u t k (t*dr) mo zo k1.2 k4 hu htb;have T:=Ss (n+16) dr (M+1) zc lb zb H u tm wh t k (t*dr) mo zo M ((M+1)*4) (ir (fun i=>zc i+u) (M+1)) (ir (fun i=>t*zc i) (M+1)) eG (K0 dr (M+1) zc lb zb (t*dr) (ir (fun i=>zc i+u) (M+1)) (ir (fun i=>t*zc i) (M+1))) (Hp dr (M+1) zc lb zb (t*dr) (ir (fun i=>zc i+u) (M+1)) (ir (fun i=>t*zc i) (M+1))) (Dp dr (M+1) zc lb zb (t*dr) (ir (fun i=>zc i+u) (M+1)) (ir (fun i=>t*zc i) (M+1)) (.int .i64 k)) (Dp dr (M+1) zc lb zb (t*dr) (ir (fun i=>zc i+u) (M+1)) (ir (fun i=>t*zc i) (M+1)) (aY mo zo false)) (Q.cntF (M+1) (dg dr (M+1) zc) (jr lb zb)) (xp dr (M+1) zc lb zb k).1 (xp dr (M+1) zc lb zb k).2.1 (xp dr (M+1) zc lb zb k).2.2 (Ln (M+1) (dg dr (M+1) zc) lb zb mo zo);rw[et,ek,ed,dH,dH] at T;have htb:=fun q=>dk (KU dr (M+1) zc lb zb (t*dr) (ir (fun i=>zc i+u) (M+1)) (ir (fun i=>t*zc i) (M+1)) n h0 hX hY k mo zo (by omega) (.tup [.nils,.int .i64 (Int.ofNat 13)]) (by unfold JY;rw[if_neg ho];rfl) q) (fun H=>by
  rw[show n+16+q=n+15+q+1 by omega];exact PU (n+15+q) H)
 refine bB (n:=n+18) Tryd.func10 rfl rfl rfl T (kg _ (n+16) 2 htb) (a8 (ai _ _) TE (fun x hx=>fk hx (by simp only[eC.st,aP];exact lp))) (aj _ _) ?_;clear T htb lp;generalize xp dr (M+1) zc lb zb k=wx;generalize Q.cntF (M+1) (dg dr (M+1) zc) (jr lb zb)=cn;generalize Ln (M+1) (dg dr (M+1) zc) lb zb mo zo=ch;generalize ir (fun i=>zc i+u) (M+1)=X at *;generalize ir (fun i=>t*zc i) (M+1)=Y at *;have r1:jo .i64 (nh .i64 tm) (Int.ofNat 4)=t-1:=by
  rw[oA (by omega) (by omega),iD,Int.tmod_eq_emod_of_nonneg htm.1,← ht];simp only[Int.ofNat_eq_natCast];omega
 repeat' first
  | (refine Tr.af (fun hc=>?_) (fun hc=>?_)<;>(try simp (disch:=omega) only[nV,nW] at hc)<;>(try (exfalso;omega)))
  | (refine Tr.ae ?_ ?_;· ((try simp (disch:=omega) only[nV,nW]);try omega))
  | (refine Tr.al ?_ ?_;· first | exact trivial | rfl | exact ⟨rfl,rfl⟩ | exact ⟨_,rfl,.inl rfl⟩ | exact ⟨_,rfl,.inr (.inl rfl)⟩ | exact ⟨_,rfl,.inr (.inr rfl)⟩ | exact ⟨_,rfl,.inr (.inl ⟨rfl,by assumption⟩)⟩ | exact ⟨_,rfl,.inr (.inr ⟨rfl,by assumption⟩)⟩)
  | fail
 all_goals first
  | exact Tr.ah ⟨rfl,rfl⟩
  | fail
theorem Ug (hu:0≤u∧u≤65535) (htm:0≤tm∧tm≤255) (hwh:0≤wh∧wh≤255):cd (n+19) (.fn 10) [bG dr lc zc lb zb,.int .u16 u,.int .u8 tm,.int .u8 wh,aY mo zo false] H=some (.bool true,H):=by
 by_cases hg:c9 dr lc zc lb zb=0∧mo≤20
 · obtain ⟨h0,hmo⟩:=hg;by_cases ho:JW dr lc zc lb zb=none
   · exact PR dr lc zc lb zb n H u tm wh mo zo h0 hmo hu htm hwh ho
   · exact PS dr lc zc lb zb n H u tm wh mo zo h0 hmo hu htm hwh ho
 · refine bB (n:=n+18) Tryd.func10 rfl rfl rfl (Su (n+16) dr lc zc lb zb H u tm wh mo zo (c9 dr lc zc lb zb) (fun x=>x=[bG dr lc zc lb zb]∧lc≤1000∧lb≤1000)) (kg _ (n+16) 2 (fun q=>qz (TK (by omega) (bj _)) (fun A H hA=>by
    obtain ⟨rfl,q1,q2⟩:=hA;rw[show n+16+q=n+13+q+3 by omega];exact TH (n+13+q) dr lc zc lb zb H q1 q2))) (cD (ai _ _) 0) (aj _ _) ?_
   refine Tr.af (fun _=>Tr.al trivial (Tr.ah ⟨rfl,rfl⟩)) (fun r1=>Tr.af (fun r2=>Tr.al ⟨rfl,?_⟩ (Tr.af (fun _=>Tr.al trivial (Tr.ah ⟨rfl,rfl⟩)) (fun q=>Tr.af (fun _=>Tr.al trivial (Tr.ah ⟨rfl,rfl⟩)) (fun q2=>?_)))) (fun _=>Tr.al trivial (Tr.ah ⟨rfl,rfl⟩)))
   · simp (disch:=omega) only[nV,nW] at r1;simp (disch:=omega) only[nV,nW] at r2;omega
   · exfalso;rw[aM,bm] at q;have q:c9 dr lc zc lb zb=0:=by simpa using q
     simp (disch:=omega) only[nV,nW] at q2;omega
end
end Go.Eng
end
section
namespace Go.Proofs.YtgphpjdchnfjlaaDoor
open Go.ChangeShapes Go.WideShapes Go.ChangeAt Go.RowKit
theorem Tryd.own:ownKnob Tryd.prog.godebug=none:=by kernel_rfl
def Bz:List (String×DataW Unit):=[("math/bits.deBruijn32tab",Rows.laid_math_bits_deBruijn32tab),("math/bits.deBruijn64tab",Rows.laid_math_bits_deBruijn64tab)]
def t32:List Int:=Go.Lib.deBruijn32tab.map fun n:Nat=>(n:Int)
def t64:List Int:=Go.Lib.deBruijn64tab.map fun n:Nat=>(n:Int)
theorem Pk:(Rows.laid_math_bits_deBruijn64tab:DataW Unit)=Lib.tabData .u8 t64:=by kernel_rfl
set_option maxRecDepth 100000 in
theorem FI {W:World} (h:laidMetH Tryd.prog Bz W):Eng.lM W:=by
 have h':laidMet Tryd.prog Bz W:=h;obtain ⟨ps,hv,_⟩:=h';obtain ⟨_,_,_,_,_,_,_,_,_,_,hv,_⟩:=hv;obtain ⟨g,t,cs,fuel,p,q,h1,h2,h3,h4,_⟩:=hv;obtain rfl:1=g:=Option.some.inj ((show Tryd.prog.globalNamed "math/bits.deBruijn64tab" = some 1 by kernel_rfl).symm.trans h1);obtain rfl:139=t:=Option.some.inj ((show (Tryd.prog.globals[1]?).map (·.type)=some 139 by kernel_rfl).symm.trans h2);rw[Pk] at h4;have hcs:=Lib.cells_of_tab Tryd.underlying139 Tryd.underlying5 (by kernel_rfl) (by kernel_rfl) h4;intro b o v hg;unfold Eng.oX at hg;split at hg
 · rename_i hbo;obtain ⟨rfl,ho⟩:=hbo;simp only[Option.some.injEq] at hg;subst hg;rw[World.var?_cell h1 h3 o,← Array.getElem?_toList,hcs,List.getElem?_map];have hl:Go.Lib.deBruijn64tab.length=64:=by decide
   rw[t64,List.getElem?_map,List.getElem?_eq_getElem (by omega)];simp only[Option.map_some,List.getD_eq_getElem?_getD,List.getElem?_eq_getElem (show o<Go.Lib.deBruijn64tab.length by omega),Option.getD_some]
 · cases hg
noncomputable def qb (os:Os):World :=
 let w0:=World.holding Tryd.prog os ⟨#[],#[],[]⟩
 let put (h:Array Obj) (g:Nat) (cs:Array Value):Array Obj:=h.modify g fun
  | .cells _ t frozen=>.cells cs t frozen
  | o=>o
 { w0 with heap:=put (put w0.heap 0 (t32.map fun z=>Value.int .u8 z).toArray) 1 (t64.map fun z=>Value.int .u8 z).toArray }
theorem Im (os:Os) (args:Array Value):LaidIn Tryd.prog ((qb os).forCall (fun _ _=>0) ⟨#[],args,[]⟩).memory Bz [0,1] :=
 LaidIn.of_run [0,1] 8 (by kernel_rfl) (by kernel_rfl) (by kernel_rfl) (by kernel_rfl)
theorem FV (os:Os) (args:Array Value):laidMetH Tryd.prog Bz ((qb os).forCall (fun _ _=>0) ⟨#[],args,[]⟩).memory:=(Im os args).met
end Go.Proofs.YtgphpjdchnfjlaaDoor
end
section
namespace Go.Eng.Gall
open Go.Proofs
def Pb:List cq:=[]
theorem C7:∀ e ∈ Pb,aC Tryd.prog e:=IE
def jN:List Int:=[100,110,60,110,90,95,75,100,120,125,80,110,80,80,70,200]
def Et:List Int:=[100,110,90,110,90,95,75,100,120,125,80,110,80,80,70,200]
def gR (a b w s:List Int):Row:=.G (.int .i64 10::.slcT none (.I .i64 a) 4 4 true::.slcT none (.I .i64 b) 2 1 true::(w.map (AV.int .i64)++s.map (AV.int .u64)))
def gA (a b:List Int):AV:=.agg (.G [.int .i64 10,.slcT none (.I .i64 a) 4 4 true,.slcT none (.I .i64 b) 2 1 true])
noncomputable def E1:cq:=⟨46,[],gA jN [3,1]⟩
theorem Wt:aC Tryd.prog E1:=aZ C7 (H':=[⟨true,[]⟩]) (by kernel_rfl) (by kernel_rfl)
noncomputable def Pc:List cq:=E1::Pb
theorem C8:∀ e ∈ Pc,aC Tryd.prog e:=aX Wt C7
noncomputable def E2:cq:=⟨47,[],gA Et [3,1]⟩
theorem Wu:aC Tryd.prog E2:=aZ C8 (H':=[⟨true,[]⟩]) (by kernel_rfl) (by kernel_rfl)
noncomputable def Pd:List cq:=E2::Pc
theorem C9:∀ e ∈ Pd,aC Tryd.prog e:=aX Wu C8
noncomputable def E3:cq:=⟨22,[gA jN [3,1]],.int .i64 0⟩
theorem Wv:aC Tryd.prog E3:=aZ C9 (H':=[⟨true,[]⟩]) (by kernel_rfl) (by kernel_rfl)
noncomputable def Pe:List cq:=E3::Pd
theorem Da:∀ e ∈ Pe,aC Tryd.prog e:=aX Wv C9
noncomputable def E4:cq:=⟨16,[gA jN [3,1],.int .i64 2,.int .i64 2],.tup [.agg (.I .i64 [100,105]),.int .i64 0]⟩
theorem Ww:aC Tryd.prog E4:=aZ Da (H':=[⟨true,[]⟩]) (by kernel_rfl) (by kernel_rfl)
noncomputable def Pf:List cq:=E4::Pe
theorem Db:∀ e ∈ Pf,aC Tryd.prog e:=aX Ww Da
end Go.Eng.Gall
end
section
namespace Go.Eng.Gall
open Go.Proofs
noncomputable def E5:cq:=⟨18,[gA jN [3,1],.int .i64 2],.tup [.agg (.I .i64 [2,3]),.int .i64 0]⟩
theorem Wx:aC Tryd.prog E5:=aZ Db (H':=[⟨true,[]⟩]) (by kernel_rfl) (by kernel_rfl)
noncomputable def Pg:List cq:=E5::Pf
theorem Dc:∀ e ∈ Pg,aC Tryd.prog e:=aX Wx Db
noncomputable def E6:cq:=⟨56,[.ptrT none (gR jN [3,1] [0,3,0,1,2,3,0,1,0,0,0,0,0,0,0,0,0,0,0,0] [0,8,0,0,0,0,0,0,0,0]) 0],.agg (.I .i64 [0,3,1,1,2,3,0,0,0,0,0,0,0,0,0,0,0,0,0,0])⟩
theorem Wy:aC Tryd.prog E6:=aZ Dc (H':=[⟨true,[]⟩]) (by kernel_rfl) (by kernel_rfl)
noncomputable def Pj:List cq:=E6::Pg
theorem Dd:∀ e ∈ Pj,aC Tryd.prog e:=aX Wy Dc
noncomputable def E7:cq:=⟨20,[gA jN [3,1],.int .i64 1],.tup [.agg (.I .i64 [1,1]),.int .i64 0]⟩
theorem Wz:aC Tryd.prog E7:=aZ Dd (H':=[⟨true,[]⟩]) (by kernel_rfl) (by kernel_rfl)
noncomputable def Pl:List cq:=E7::Pj
theorem De:∀ e ∈ Pl,aC Tryd.prog e:=aX Wz Dd
noncomputable def E8:cq:=⟨49,[gA jN [3,1],.nils],.tup [.ptrT none (gR jN [3,1] [0,3,0,1,2,3,0,1,0,0,0,0,0,0,0,0,0,0,0,0] [0,8,0,0,0,0,0,0,0,0]) 0,.int .i64 0]⟩
theorem WA:aC Tryd.prog E8:=aZ De (H':=[⟨true,[]⟩]) (by kernel_rfl) (by kernel_rfl)
noncomputable def Pm:List cq:=E8::Pl
theorem Df:∀ e ∈ Pm,aC Tryd.prog e:=aX WA De
end Go.Eng.Gall
end
section
namespace Go.Eng.Gall
open Go.Proofs
noncomputable def E9:cq:=⟨65,[.ptrT none (gR jN [3,1] [0,3,0,1,2,3,0,1,0,0,0,0,0,0,0,0,0,0,0,0] [0,8,0,0,0,0,0,0,0,0]) 0],.tup [.agg (.G [.int .i64 0,.int .i64 0,.nils]),.bool false]⟩
theorem WB:aC Tryd.prog E9:=aZ Df (H':=[⟨true,[]⟩]) (by kernel_rfl) (by kernel_rfl)
noncomputable def Pn:List cq:=E9::Pm
theorem Dg:∀ e ∈ Pn,aC Tryd.prog e:=aX WB Df
noncomputable def SV:cq:=⟨56,[.ptrT none (gR jN [3,1] [0,0,0,1,2,3,0,1,0,0,0,0,0,0,0,0,0,0,0,0] [0,8,0,0,0,0,0,0,0,0]) 0],.agg (.I .i64 [0,0,1,1,2,3,0,0,0,0,0,0,0,0,0,0,0,0,0,0])⟩
theorem Rh:aC Tryd.prog SV:=aZ Dg (H':=[⟨true,[]⟩]) (by kernel_rfl) (by kernel_rfl)
noncomputable def Ka:List cq:=SV::Pn
theorem zi:∀ e ∈ Ka,aC Tryd.prog e:=aX Rh Dg
noncomputable def SW:cq:=⟨65,[.ptrT none (gR jN [3,1] [0,0,0,1,2,3,0,1,0,0,0,0,0,0,0,0,0,0,0,0] [0,8,0,0,0,0,0,0,0,0]) 0],.tup [.agg (.G [.int .i64 0,.int .i64 0,.slcT none (.I .i64 [0,3]) 1 2 false]),.bool true]⟩
theorem Ri:aC Tryd.prog SW:=aZ zi (H':=[⟨true,[]⟩]) (by kernel_rfl) (by kernel_rfl)
noncomputable def Kb:List cq:=SW::Ka
theorem zj:∀ e ∈ Kb,aC Tryd.prog e:=aX Ri zi
noncomputable def SX:cq:=⟨56,[.ptrT none (gR jN [3,1] [0,3,0,1,2,3,0,0,0,0,0,0,0,0,0,0,0,0,0,0] [0,8,0,0,0,0,0,0,0,0]) 0],.agg (.I .i64 [0,3,1,1,2,3,0,0,0,0,0,0,0,0,0,0,0,0,0,0])⟩
theorem Rj:aC Tryd.prog SX:=aZ zj (H':=[⟨true,[]⟩]) (by kernel_rfl) (by kernel_rfl)
noncomputable def Kc:List cq:=SX::Kb
theorem zk:∀ e ∈ Kc,aC Tryd.prog e:=aX Rj zj
end Go.Eng.Gall
end
section
namespace Go.Eng.Gall
open Go.Proofs
noncomputable def SY:cq:=⟨65,[.ptrT none (gR jN [3,1] [0,3,0,1,2,3,0,0,0,0,0,0,0,0,0,0,0,0,0,0] [0,8,0,0,0,0,0,0,0,0]) 0],.tup [.agg (.G [.int .i64 0,.int .i64 0,.nils]),.bool false]⟩
theorem Rk:aC Tryd.prog SY:=aZ zk (H':=[⟨true,[]⟩]) (by kernel_rfl) (by kernel_rfl)
noncomputable def Kd:List cq:=SY::Kc
theorem zm:∀ e ∈ Kd,aC Tryd.prog e:=aX Rk zk
noncomputable def SZ:cq:=⟨56,[.ptrT none (gR jN [3,1] [1,1,0,1,2,3,0,0,0,0,0,0,0,0,0,0,0,0,0,0] [0,8,0,0,0,0,0,0,0,0]) 0],.agg (.I .i64 [1,1,1,1,2,3,0,0,0,0,0,0,0,0,0,0,0,0,0,0])⟩
theorem Rl:aC Tryd.prog SZ:=aZ zm (H':=[⟨true,[]⟩]) (by kernel_rfl) (by kernel_rfl)
noncomputable def Ke:List cq:=SZ::Kd
theorem zn:∀ e ∈ Ke,aC Tryd.prog e:=aX Rl zm
noncomputable def S0:cq:=⟨65,[.ptrT none (gR jN [3,1] [1,1,0,1,2,3,0,0,0,0,0,0,0,0,0,0,0,0,0,0] [0,8,0,0,0,0,0,0,0,0]) 0],.tup [.agg (.G [.int .i64 0,.int .i64 1,.slcT none (.I .i64 [0,1,3]) 1 3 false]),.bool true]⟩
theorem Rm:aC Tryd.prog S0:=aZ zn (H':=[⟨true,[]⟩]) (by kernel_rfl) (by kernel_rfl)
noncomputable def Kf:List cq:=S0::Ke
theorem zp:∀ e ∈ Kf,aC Tryd.prog e:=aX Rm zn
noncomputable def S1:cq:=⟨56,[.ptrT none (gR jN [3,1] [0,3,1,1,2,3,0,0,0,0,0,0,0,0,0,0,0,0,0,0] [0,8,0,0,0,0,0,0,0,0]) 0],.agg (.I .i64 [0,3,1,1,2,3,0,0,0,0,0,0,0,0,0,0,0,0,0,0])⟩
theorem Rn:aC Tryd.prog S1:=aZ zp (H':=[⟨true,[]⟩]) (by kernel_rfl) (by kernel_rfl)
noncomputable def Kg:List cq:=S1::Kf
theorem zq:∀ e ∈ Kg,aC Tryd.prog e:=aX Rn zp
end Go.Eng.Gall
end
section
namespace Go.Eng.Gall
open Go.Proofs
noncomputable def S2:cq:=⟨65,[.ptrT none (gR jN [3,1] [0,3,1,1,2,3,0,0,0,0,0,0,0,0,0,0,0,0,0,0] [0,8,0,0,0,0,0,0,0,0]) 0],.tup [.agg (.G [.int .i64 0,.int .i64 0,.nils]),.bool false]⟩
theorem Ro:aC Tryd.prog S2:=aZ zq (H':=[⟨true,[]⟩]) (by kernel_rfl) (by kernel_rfl)
noncomputable def Kh:List cq:=S2::Kg
theorem zt:∀ e ∈ Kh,aC Tryd.prog e:=aX Ro zq
noncomputable def S3:cq:=⟨56,[.ptrT none (gR jN [3,1] [2,2,1,1,2,3,0,0,0,0,0,0,0,0,0,0,0,0,0,0] [0,8,0,0,0,0,0,0,0,0]) 0],.agg (.I .i64 [2,2,1,1,2,3,0,0,0,0,0,0,0,0,0,0,0,0,0,0])⟩
theorem Rp:aC Tryd.prog S3:=aZ zt (H':=[⟨true,[]⟩]) (by kernel_rfl) (by kernel_rfl)
noncomputable def Ki:List cq:=S3::Kh
theorem zu:∀ e ∈ Ki,aC Tryd.prog e:=aX Rp zt
noncomputable def S4:cq:=⟨65,[.ptrT none (gR jN [3,1] [2,2,1,1,2,3,0,0,0,0,0,0,0,0,0,0,0,0,0,0] [0,8,0,0,0,0,0,0,0,0]) 0],.tup [.agg (.G [.int .i64 0,.int .i64 0,.nils]),.bool false]⟩
theorem Rq:aC Tryd.prog S4:=aZ zu (H':=[⟨true,[]⟩]) (by kernel_rfl) (by kernel_rfl)
noncomputable def Kj:List cq:=S4::Ki
theorem zy:∀ e ∈ Kj,aC Tryd.prog e:=aX Rq zu
noncomputable def S5:cq:=⟨56,[.ptrT none (gR jN [3,1] [2,2,1,1,3,3,0,0,0,0,0,0,0,0,0,0,0,0,0,0] [0,8,0,0,0,0,0,0,0,0]) 0],.agg (.I .i64 [2,2,1,1,3,3,0,0,0,0,0,0,0,0,0,0,0,0,0,0])⟩
theorem Rr:aC Tryd.prog S5:=aZ zy (H':=[⟨true,[]⟩]) (by kernel_rfl) (by kernel_rfl)
noncomputable def Kk:List cq:=S5::Kj
theorem zA:∀ e ∈ Kk,aC Tryd.prog e:=aX Rr zy
end Go.Eng.Gall
end
section
namespace Go.Eng.Gall
open Go.Proofs
noncomputable def S6:cq:=⟨65,[.ptrT none (gR jN [3,1] [2,2,1,1,3,3,0,0,0,0,0,0,0,0,0,0,0,0,0,0] [0,8,0,0,0,0,0,0,0,0]) 0],.tup [.agg (.G [.int .i64 0,.int .i64 0,.nils]),.bool false]⟩
theorem Rs:aC Tryd.prog S6:=aZ zA (H':=[⟨true,[]⟩]) (by kernel_rfl) (by kernel_rfl)
noncomputable def Kl:List cq:=S6::Kk
theorem zB:∀ e ∈ Kl,aC Tryd.prog e:=aX Rs zA
noncomputable def S7:cq:=⟨74,[.ptrT none (gR jN [3,1] [0,3,0,1,2,3,0,1,0,0,0,0,0,0,0,0,0,0,0,0] [0,8,0,0,0,0,0,0,0,0]) 0],.slcT none (.I .i64 [3,1,0,2]) 1 4 false⟩
theorem Rt:aC Tryd.prog S7:=aZ zB (H':=[⟨true,[]⟩]) (by kernel_rfl) (by kernel_rfl)
noncomputable def Km:List cq:=S7::Kl
theorem zC:∀ e ∈ Km,aC Tryd.prog e:=aX Rt zB
noncomputable def S8:cq:=⟨38,[gA jN [3,1]],.tup [.slcT none (.I .i64 [3,1,0,2]) 1 4 true,.int .i64 0]⟩
theorem Ru:aC Tryd.prog S8:=aZ zC (H':=[⟨true,[]⟩]) (by kernel_rfl) (by kernel_rfl)
noncomputable def Kn:List cq:=S8::Km
theorem zD:∀ e ∈ Kn,aC Tryd.prog e:=aX Ru zC
noncomputable def S9:cq:=⟨22,[gA Et [3,1]],.int .i64 0⟩
theorem Rv:aC Tryd.prog S9:=aZ zD (H':=[⟨true,[]⟩]) (by kernel_rfl) (by kernel_rfl)
noncomputable def Ko:List cq:=S9::Kn
theorem zE:∀ e ∈ Ko,aC Tryd.prog e:=aX Rv zD
end Go.Eng.Gall
end
section
namespace Go.Eng.Gall
open Go.Proofs
noncomputable def Ta:cq:=⟨49,[gA Et [3,1],.nils],.tup [.ptrT none (gR Et [3,1] [0,1,0,1,2,3,0,1,0,0,0,0,0,0,0,0,0,0,0,0] [0,8,0,0,0,0,0,0,0,0]) 0,.int .i64 0]⟩
theorem Rw:aC Tryd.prog Ta:=aZ zE (H':=[⟨true,[]⟩]) (by kernel_rfl) (by kernel_rfl)
noncomputable def Kp:List cq:=Ta::Ko
theorem zF:∀ e ∈ Kp,aC Tryd.prog e:=aX Rw zE
noncomputable def Tb:cq:=⟨56,[.ptrT none (gR Et [3,1] [0,1,0,1,2,3,0,1,0,0,0,0,0,0,0,0,0,0,0,0] [0,8,0,0,0,0,0,0,0,0]) 0],.agg (.I .i64 [0,1,1,1,2,3,0,0,0,0,0,0,0,0,0,0,0,0,0,0])⟩
theorem Rx:aC Tryd.prog Tb:=aZ zF (H':=[⟨true,[]⟩]) (by kernel_rfl) (by kernel_rfl)
noncomputable def Kq:List cq:=Tb::Kp
theorem zG:∀ e ∈ Kq,aC Tryd.prog e:=aX Rx zF
noncomputable def Tc:cq:=⟨65,[.ptrT none (gR Et [3,1] [0,1,0,1,2,3,0,1,0,0,0,0,0,0,0,0,0,0,0,0] [0,8,0,0,0,0,0,0,0,0]) 0],.tup [.agg (.G [.int .i64 0,.int .i64 1,.slcT none (.I .i64 [0,1,3]) 1 3 false]),.bool true]⟩
theorem Ry:aC Tryd.prog Tc:=aZ zG (H':=[⟨true,[]⟩]) (by kernel_rfl) (by kernel_rfl)
noncomputable def Kr:List cq:=Tc::Kq
theorem zH:∀ e ∈ Kr,aC Tryd.prog e:=aX Ry zG
noncomputable def Td:cq:=⟨74,[.ptrT none (gR Et [3,1] [0,1,0,1,2,3,0,1,0,0,0,0,0,0,0,0,0,0,0,0] [0,8,0,0,0,0,0,0,0,0]) 0],.nils⟩
theorem Rz:aC Tryd.prog Td:=aZ zH (H':=[⟨true,[]⟩]) (by kernel_rfl) (by kernel_rfl)
noncomputable def Kt:List cq:=Td::Kr
theorem zI:∀ e ∈ Kt,aC Tryd.prog e:=aX Rz zH
end Go.Eng.Gall
end
section
namespace Go.Eng.Gall
open Go.Proofs
noncomputable def Te:cq:=⟨38,[gA Et [3,1]],.tup [.nils,.int .i64 13]⟩
theorem RA:aC Tryd.prog Te:=aZ zI (H':=[⟨true,[]⟩]) (by kernel_rfl) (by kernel_rfl)
noncomputable def Ku:List cq:=Te::Kt
theorem zJ:∀ e ∈ Ku,aC Tryd.prog e:=aX RA zI
noncomputable def Tf:cq:=⟨25,[gA Et [3,1]],.tup [.agg (.G [.int .i64 0,.int .i64 1,.slcT none (.I .i64 [0,1,3]) 1 3 false]),.int .i64 0]⟩
theorem RB:aC Tryd.prog Tf:=aZ zJ (H':=[⟨true,[]⟩]) (by kernel_rfl) (by kernel_rfl)
noncomputable def Kv:List cq:=Tf::Ku
theorem zK:∀ e ∈ Kv,aC Tryd.prog e:=aX RB zJ
noncomputable def Tg:cq:=⟨56,[.ptrT none (gR jN [3,1] [1,1,0,1,2,3,0,1,0,0,0,0,0,0,0,0,0,0,0,0] [0,8,0,0,0,0,0,0,0,0]) 0],.agg (.I .i64 [1,1,1,1,2,3,0,0,0,0,0,0,0,0,0,0,0,0,0,0])⟩
theorem RC:aC Tryd.prog Tg:=aZ zK (H':=[⟨true,[]⟩]) (by kernel_rfl) (by kernel_rfl)
noncomputable def Kw:List cq:=Tg::Kv
theorem zL:∀ e ∈ Kw,aC Tryd.prog e:=aX RC zK
noncomputable def Th:cq:=⟨65,[.ptrT none (gR jN [3,1] [1,1,0,1,2,3,0,1,0,0,0,0,0,0,0,0,0,0,0,0] [0,8,0,0,0,0,0,0,0,0]) 0],.tup [.agg (.G [.int .i64 0,.int .i64 1,.slcT none (.I .i64 [0,1,3]) 1 3 false]),.bool true]⟩
theorem RD:aC Tryd.prog Th:=aZ zL (H':=[⟨true,[]⟩]) (by kernel_rfl) (by kernel_rfl)
noncomputable def Kx:List cq:=Th::Kw
theorem zM:∀ e ∈ Kx,aC Tryd.prog e:=aX RD zL
end Go.Eng.Gall
end
section
namespace Go.Eng.Gall
open Go.Proofs
noncomputable def Ti:cq:=⟨56,[.ptrT none (gR jN [3,1] [2,2,0,1,2,3,0,1,0,0,0,0,0,0,0,0,0,0,0,0] [0,8,0,0,0,0,0,0,0,0]) 0],.agg (.I .i64 [2,2,1,1,2,3,0,0,0,0,0,0,0,0,0,0,0,0,0,0])⟩
theorem RE:aC Tryd.prog Ti:=aZ zM (H':=[⟨true,[]⟩]) (by kernel_rfl) (by kernel_rfl)
noncomputable def Ky:List cq:=Ti::Kx
theorem zN:∀ e ∈ Ky,aC Tryd.prog e:=aX RE zM
noncomputable def Tj:cq:=⟨65,[.ptrT none (gR jN [3,1] [2,2,0,1,2,3,0,1,0,0,0,0,0,0,0,0,0,0,0,0] [0,8,0,0,0,0,0,0,0,0]) 0],.tup [.agg (.G [.int .i64 0,.int .i64 0,.nils]),.bool false]⟩
theorem RF:aC Tryd.prog Tj:=aZ zN (H':=[⟨true,[]⟩]) (by kernel_rfl) (by kernel_rfl)
noncomputable def Kz:List cq:=Tj::Ky
theorem zO:∀ e ∈ Kz,aC Tryd.prog e:=aX RF zN
noncomputable def Tk:cq:=⟨56,[.ptrT none (gR jN [3,1] [3,3,0,1,2,3,0,1,0,0,0,0,0,0,0,0,0,0,0,0] [0,8,0,0,0,0,0,0,0,0]) 0],.agg (.I .i64 [3,3,1,1,2,3,0,0,0,0,0,0,0,0,0,0,0,0,0,0])⟩
theorem RG:aC Tryd.prog Tk:=aZ zO (H':=[⟨true,[]⟩]) (by kernel_rfl) (by kernel_rfl)
noncomputable def KA:List cq:=Tk::Kz
theorem zP:∀ e ∈ KA,aC Tryd.prog e:=aX RG zO
noncomputable def Tl:cq:=⟨65,[.ptrT none (gR jN [3,1] [3,3,0,1,2,3,0,1,0,0,0,0,0,0,0,0,0,0,0,0] [0,8,0,0,0,0,0,0,0,0]) 0],.tup [.agg (.G [.int .i64 0,.int .i64 0,.nils]),.bool false]⟩
theorem RH:aC Tryd.prog Tl:=aZ zP (H':=[⟨true,[]⟩]) (by kernel_rfl) (by kernel_rfl)
noncomputable def KB:List cq:=Tl::KA
theorem zQ:∀ e ∈ KB,aC Tryd.prog e:=aX RH zP
end Go.Eng.Gall
end
section
namespace Go.Eng.Gall
open Go.Proofs
noncomputable def Tm:cq:=⟨30,[gA jN [3,1],.int .i64 0],.tup [.slcT none (.I .i64 [2,3]) 1 2 false,.int .i64 0]⟩
theorem RI:aC Tryd.prog Tm:=aZ zQ (H':=[⟨true,[]⟩]) (by kernel_rfl) (by kernel_rfl)
noncomputable def KC:List cq:=Tm::KB
theorem zR:∀ e ∈ KC,aC Tryd.prog e:=aX RI zQ
noncomputable def Tn:cq:=⟨56,[.ptrT none (gR jN [3,1] [0,3,0,1,2,3,0,1,0,0,0,0,0,0,0,0,0,0,0,0] [0,9,0,0,0,0,0,0,0,0]) 0],.agg (.I .i64 [0,0,1,1,2,3,0,0,0,0,0,0,0,0,0,0,0,0,0,0])⟩
theorem RJ:aC Tryd.prog Tn:=aZ zR (H':=[⟨true,[]⟩]) (by kernel_rfl) (by kernel_rfl)
noncomputable def KD:List cq:=Tn::KC
theorem zS:∀ e ∈ KD,aC Tryd.prog e:=aX RJ zR
noncomputable def To:cq:=⟨65,[.ptrT none (gR jN [3,1] [0,3,0,1,2,3,0,1,0,0,0,0,0,0,0,0,0,0,0,0] [0,9,0,0,0,0,0,0,0,0]) 0],.tup [.agg (.G [.int .i64 0,.int .i64 0,.slcT none (.I .i64 [0,3]) 1 2 false]),.bool true]⟩
theorem RK:aC Tryd.prog To:=aZ zS (H':=[⟨true,[]⟩]) (by kernel_rfl) (by kernel_rfl)
noncomputable def KE:List cq:=To::KD
theorem zT:∀ e ∈ KE,aC Tryd.prog e:=aX RK zS
noncomputable def Tp:cq:=⟨32,[gA jN [3,1],.int .i64 1,.int .i64 0],.tup [.bool true,.int .i64 0]⟩
theorem RL:aC Tryd.prog Tp:=aZ zT (H':=[⟨true,[]⟩]) (by kernel_rfl) (by kernel_rfl)
noncomputable def KF:List cq:=Tp::KE
theorem G3:∀ e ∈ KF,aC Tryd.prog e:=aX RL zT
end Go.Eng.Gall
end
section
namespace Go.Eng.Gall
open Go.Proofs
noncomputable def Tq:cq:=⟨73,[.ptrT none (gR jN [3,1] [0,3,0,1,2,3,0,1,0,0,0,0,0,0,0,0,0,0,0,0] [0,8,0,0,0,0,0,0,0,0]) 0],.int .i64 2⟩
theorem RM:aC Tryd.prog Tq:=Gm (dr:=10) (lc:=4) (zl:=[100,110,60,110,90,95,75,100,120,125,80,110,80,80,70,200]) (lb:=1) (bl:=[3,1]) (f1:=true) (f2:=true) (Wl:=[0,3,0,1,2,3,0,1,0,0,0,0,0,0,0,0,0,0,0,0]) (Bl:=[0,8,0,0,0,0,0,0,0,0]) (v:=2) rfl (by decide) rfl rfl rfl rfl (by kernel_rfl)
noncomputable def KG:List cq:=Tq::KF
theorem zU:∀ e ∈ KG,aC Tryd.prog e:=aX RM G3
noncomputable def Ts:cq:=⟨34,[gA jN [3,1]],.tup [.int .i64 2,.int .i64 0]⟩
theorem RO:aC Tryd.prog Ts:=aZ zU (H':=[⟨true,[]⟩]) (by kernel_rfl) (by kernel_rfl)
noncomputable def KH:List cq:=Ts::KG
theorem zV:∀ e ∈ KH,aC Tryd.prog e:=aX RO zU
noncomputable def Tt:cq:=⟨18,[gA jN [3,1],.int .i64 0],.tup [.agg (.I .i64 [0,3]),.int .i64 0]⟩
theorem RP:aC Tryd.prog Tt:=aZ zV (H':=[⟨true,[]⟩]) (by kernel_rfl) (by kernel_rfl)
noncomputable def KI:List cq:=Tt::KH
theorem zW:∀ e ∈ KI,aC Tryd.prog e:=aX RP zV
noncomputable def Tu:cq:=⟨18,[gA jN [3,1],.int .i64 1],.tup [.agg (.I .i64 [0,1]),.int .i64 0]⟩
theorem RQ:aC Tryd.prog Tu:=aZ zW (H':=[⟨true,[]⟩]) (by kernel_rfl) (by kernel_rfl)
noncomputable def KJ:List cq:=Tu::KI
theorem zX:∀ e ∈ KJ,aC Tryd.prog e:=aX RQ zW
end Go.Eng.Gall
end
section
namespace Go.Eng.Gall
open Go.Proofs
noncomputable def Tv:cq:=⟨18,[gA jN [3,1],.int .i64 3],.tup [.agg (.I .i64 [0,1]),.int .i64 0]⟩
theorem RR:aC Tryd.prog Tv:=aZ zX (H':=[⟨true,[]⟩]) (by kernel_rfl) (by kernel_rfl)
noncomputable def KL:List cq:=Tv::KJ
theorem zY:∀ e ∈ KL,aC Tryd.prog e:=aX RR zX
noncomputable def Tw:cq:=⟨20,[gA jN [3,1],.int .i64 3],.tup [.agg (.I .i64 [0,0]),.int .i64 0]⟩
theorem RS:aC Tryd.prog Tw:=aZ zY (H':=[⟨true,[]⟩]) (by kernel_rfl) (by kernel_rfl)
noncomputable def KM:List cq:=Tw::KL
theorem zZ:∀ e ∈ KM,aC Tryd.prog e:=aX RS zY
noncomputable def Tx:cq:=⟨56,[.ptrT none (gR jN [3,1] [0,3,0,1,2,3,0,1,0,0,0,0,0,0,0,0,0,0,0,0] [4,8,0,0,0,0,0,0,0,0]) 0],.agg (.I .i64 [3,3,1,1,2,2,0,0,0,0,0,0,0,0,0,0,0,0,0,0])⟩
theorem RT:aC Tryd.prog Tx:=aZ zZ (H':=[⟨true,[]⟩]) (by kernel_rfl) (by kernel_rfl)
noncomputable def KN:List cq:=Tx::KM
theorem z6:∀ e ∈ KN,aC Tryd.prog e:=aX RT zZ
noncomputable def Ty:cq:=⟨65,[.ptrT none (gR jN [3,1] [0,3,0,1,2,3,0,1,0,0,0,0,0,0,0,0,0,0,0,0] [4,8,0,0,0,0,0,0,0,0]) 0],.tup [.agg (.G [.int .i64 0,.int .i64 0,.nils]),.bool false]⟩
theorem RU:aC Tryd.prog Ty:=aZ z6 (H':=[⟨true,[]⟩]) (by kernel_rfl) (by kernel_rfl)
noncomputable def KO:List cq:=Ty::KN
theorem z7:∀ e ∈ KO,aC Tryd.prog e:=aX RU z6
end Go.Eng.Gall
end
section
namespace Go.Eng.Gall
open Go.Proofs
noncomputable def Tz:cq:=⟨32,[gA jN [3,1],.int .i64 0,.int .i64 2],.tup [.bool false,.int .i64 0]⟩
theorem RV:aC Tryd.prog Tz:=aZ z7 (H':=[⟨true,[]⟩]) (by kernel_rfl) (by kernel_rfl)
noncomputable def KP:List cq:=Tz::KO
theorem G4:∀ e ∈ KP,aC Tryd.prog e:=aX RV z7
noncomputable def TA:cq:=⟨73,[.ptrT none (gR Et [3,1] [0,1,0,1,2,3,0,1,0,0,0,0,0,0,0,0,0,0,0,0] [0,8,0,0,0,0,0,0,0,0]) 0],.int .i64 0⟩
theorem RW:aC Tryd.prog TA:=Gm (dr:=10) (lc:=4) (zl:=[100,110,90,110,90,95,75,100,120,125,80,110,80,80,70,200]) (lb:=1) (bl:=[3,1]) (f1:=true) (f2:=true) (Wl:=[0,1,0,1,2,3,0,1,0,0,0,0,0,0,0,0,0,0,0,0]) (Bl:=[0,8,0,0,0,0,0,0,0,0]) (v:=0) rfl (by decide) rfl rfl rfl rfl (by kernel_rfl)
noncomputable def KQ:List cq:=TA::KP
theorem z8:∀ e ∈ KQ,aC Tryd.prog e:=aX RW G4
noncomputable def TB:cq:=⟨34,[gA Et [3,1]],.tup [.int .i64 0,.int .i64 0]⟩
theorem RX:aC Tryd.prog TB:=aZ z8 (H':=[⟨true,[]⟩]) (by kernel_rfl) (by kernel_rfl)
noncomputable def KR:List cq:=TB::KQ
theorem Aa:∀ e ∈ KR,aC Tryd.prog e:=aX RX z8
noncomputable def TC:cq:=⟨25,[gA jN [3,1]],.tup [.agg (.G [.int .i64 0,.int .i64 0,.nils]),.int .i64 5]⟩
theorem RY:aC Tryd.prog TC:=aZ Aa (H':=[⟨true,[]⟩]) (by kernel_rfl) (by kernel_rfl)
noncomputable def KS:List cq:=TC::KR
theorem Ab:∀ e ∈ KS,aC Tryd.prog e:=aX RY Aa
end Go.Eng.Gall
end
section
namespace Go.Eng.Gall
open Go.Proofs
noncomputable def TD:cq:=⟨30,[gA Et [3,1],.int .i64 0],.tup [.nils,.int .i64 13]⟩
theorem RZ:aC Tryd.prog TD:=aZ Ab (H':=[⟨true,[]⟩]) (by kernel_rfl) (by kernel_rfl)
noncomputable def Ph:List cq:=TD::KS
theorem G5:∀ e ∈ Ph,aC Tryd.prog e:=aX RZ Ab
end Go.Eng.Gall
end
section
namespace Go.Eng.Gall
open Go.Proofs
noncomputable def EW:cq:=⟨15,[],.bool true⟩
theorem OE:aC Tryd.prog EW:=aZ G5 (H':=[⟨true,[]⟩]) (by kernel_rfl) (by kernel_rfl)
end Go.Eng.Gall
end
