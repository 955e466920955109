/- The engine as a tree: calls that are carried out where they stand, and calls that are known. -/
import Derived.Test.YtjmjkhpfipglcaaV7EngTfx2
import Derived.Test.YtjmjkhpfipglcaaV7EngXx4
import Derived.ProofKit
section
namespace Go.Eng
set_option linter.unusedVariables false
set_option linter.unusedSimpArgs false
noncomputable section

def CP (tab:List oM):bG→FuncId→List AV→ae→Option (AV×ae):=fun call f args H =>
 cond (Nat.beq f 1000000) (match H with
  | []=>some (.undef,[])
  | _=>none) (yz tab call f args H)
theorem EX {P:Program} (tab:List oM) (hT:∀ e ∈ tab,eC P e):BE P (CP tab):=by
 intro call hC f args H v H' h hne
 unfold CP at h
 cases hb:Nat.beq f 1000000 with
 | true =>
   rw[hb,cond_true] at h
   cases H with
   | nil=>exact absurd rfl hne
   | cons l r=>simp at h
 | false =>
   rw[hb,cond_false] at h
   exact uX tab hT call hC f args H v H' h hne
theorem Bd (P:Program) (tab:List oM) (KT:FuncId→Nat→Nat) (fu n:Nat):∃ x,dN P (CP tab) KT fu n .mode [] []=some x:=by
 cases n<;>exact ⟨_,rfl⟩

abbrev lR:=FuncId→Option (List HV→ae→Tr (HV×ae))
def lR.Ok (tab:lR) (call:bG):Prop:=∀ f g,tab f=some g→∀ args H x,(g args H).run=some x→call (.fn f) (py args) H=some (x.1.1,x.2)
variable (P:Program) (ora:bG→FuncId→List AV→ae→Option (AV×ae)) (KT:FuncId→Nat→Nat) (fu:Nat) (no:FuncId→Bool) (tab:lR) (n:Nat)
def Cp   : Nat→cr
 | 0 => fun tgt args H=>match tgt with
   | .fn g=>match tab g with
     | some c=>c args H
     | none=>.bad
   | _=>.bad
 | k + 1 => fun tgt args H=>match tgt with
   | .fn g=>match tab g with
     | some c=>c args H
     | none=>cond (no g) .bad (match P.funcs[g]? with
       | some fn=>match fn.body with
         | some _=>cond (Nat.ble (kA args) fn.ntmps) (aW P (dN P ora KT fu (n+k)) fu g fn (KT g) (Cp k) aJ aK args H) .bad
         | none=>.bad
       | none=>.bad)
   | _=>.bad
theorem zG (hno:∀ g,no g=false→∀ c args H,ora c g args H=none) (hm:∀ k,∃ x,dN P ora KT fu k .mode [] []=some x) (ht:∀ k,tab.Ok (dN P ora KT fu (n+k))):∀ k,(Cp P ora KT fu no tab n k).Ok (dN P ora KT fu (n+k))
 | 0 => ⟨hm _,fun tgt args H x h=>by
   unfold Cp at h
   split at h
   · split at h
     · rename_i c hc
       exact ht 0 _ _ hc _ _ _ h
     · exact (Tr.ag h).elim
   · exact (Tr.ag h).elim⟩
 | k + 1 => ⟨hm _,fun tgt args H x h=>by
   unfold Cp at h
   split at h
   · rename_i g
     split at h
     · rename_i c hc
       exact ht (k+1) _ _ hc _ _ _ h
     · obtain ⟨hn,h⟩:=Tr.jO h
       split at h
       · rename_i fn hf
         split at h
         · rename_i c hb
           obtain ⟨hl,h⟩:=Tr.bg h
           rw[fa] at hl
           exact vN hf (by rw[hb];rfl) (hno g hn _ _ _) hl (zG hno hm ht k) (ah _ _) (ai _ _) h
         · exact (Tr.ag h).elim
       · exact (Tr.ag h).elim
   · exact (Tr.ag h).elim⟩
def aG:lR:=fun _=>none
theorem bB (call:bG):aG.Ok call:=fun _ _ h=>by cases h
def b7 (t:lR) (f:FuncId) (g:List AV→Option (Prop×AV)):lR:=fun x=>cond (Nat.beq x f) (some fun args H=>match g (py args) with
 | some (p,v)=>.reqP p (.ok ((v,none),H))
 | none=>.bad) (t x)
theorem bI {t:lR} {f:FuncId} {g:List AV→Option (Prop×AV)} {call:bG} (h:t.Ok call) (k:∀ args p v,g args=some (p,v)→p→∀ H,call (.fn f) args H=some (v,H)):(b7 t f g).Ok call:=by
 intro f' g' hg args H x hx
 unfold b7 at hg
 cases hb:Nat.beq f' f with
 | true =>
   rw[hb,cond_true,Option.some.injEq] at hg
   have:=Nat.eq_of_beq_eq_true hb
   subst this;subst hg
   dsimp only at hx
   split at hx
   · rename_i p v hp
     obtain ⟨e1,hx⟩:=Tr.fX hx
     rw[k _ p v hp e1 H,← Tr.ab hx]
   · exact (Tr.ag hx).elim
 | false =>
   rw[hb,cond_false] at hg
   exact h _ _ hg _ _ _ hx
def sJ (t:lR) (f:FuncId) (args0:List AV) (H0:ae) (u:Tr (AV×ae)):lR:=fun x=>cond (Nat.beq x f) (some fun args H=>.reqP (py args=args0∧H=H0) (u.bind fun y=>.ok ((y.1,none),y.2))) (t x)
theorem fG {t:lR} {f:FuncId} {args0:List AV} {H0:ae} {u:Tr (AV×ae)} {call:bG} (h:t.Ok call) (k:∀ x,u.run=some x→call (.fn f) args0 H0=some x):(sJ t f args0 H0 u).Ok call:=by
 intro f' g' hg args H x hx
 unfold sJ at hg
 cases hb:Nat.beq f' f with
 | true =>
   rw[hb,cond_true,Option.some.injEq] at hg
   have:=Nat.eq_of_beq_eq_true hb
   subst this;subst hg
   obtain ⟨⟨e1,e2⟩,hx⟩:=Tr.fX hx
   obtain ⟨y,h1,h2⟩:=Tr.bind_some hx
   rw[e1,e2,k _ h1,← Tr.ab h2]
 | false =>
   rw[hb,cond_false] at hg
   exact h _ _ hg _ _ _ hx

theorem hJ (z:Nat→Int):nv z 0=z:=by rw[jF];funext j;simp
theorem FT:cX (cB 0 0) (cB 0 1)=true:=by simp[kf,eB]
theorem jL (a:Nat):dH a a=true:=by simp[cu]

end
end Go.Eng
end
section
namespace Go.Eng.Kt
def k0:List Nat:=[]
def k1:List Nat:=[]
def k2:List Nat:=[]
def k3:List Nat:=[]
def k4:List Nat:=[]
def k5:List Nat:=[]
def k6:List Nat:=[]
def k7:List Nat:=[]
def k8:List Nat:=[]
def k9:List Nat:=[6901746346790563787434755862277025452451108972170386555162524223798917,6901746346790563787434755862277025452451108972170386555160325200543365,6901746346790563787434755862277025452451108972170386555162524223795199,6901746346790563787434755862277025452451108972170386555162524223774597,6901746346790563787434755862277025452451108972170386555162524223676293,6901746346790563787434755862277025452451108972170386555162524223283077,6901746346790563787434755862277025452451108972170386555162524222758805,6901746346790563787434755862277025452451108972170386555162524221710229,6901746346790563787434755862277025452451108972170386555162524220661653,6901746346790563787434755862277025286297609499055902442186641685618581,6901746346790563786686467023963603158330822337819649649098686761762717,6901746346790563787434755862277025452451108972170386555162524223795199,6901746346790563787434755862277025452451108972170386555162524219572127,6901746346790563787434755862277025452451108972170386555162524211183519,6901746346790563021186985429332596273277595397015794745792963119382431,6901746346790563787434755862277025452451108972170386555162524211183519,6901746346765455380493209139221682294758278306505977133384668073131935,6901746346790563787434755862277025452451108972170386555162524223795199,6901746346790563787434755862277025452451108972170386555162524223795199,6901746346790563787434755862277025452451108972170386555162524223795199]
def PY:List Nat:=[]
def PZ:List Nat:=[]
def JL:List Nat:=[]
def P0:List Nat:=[]
def P1:List Nat:=[]
def P2:List Nat:=[8189,8187]
def P4:List Nat:=[1569275433846670190958947355801916604025588861116008628223,1569275433846670190958947355801916604025588861116008628217,1569275433846670190958947355801916604025588861116008628193,1569275433846670190958947355801916604025588861116008628097,1569275433846670190958947355801916604025588861116008627713,1569275433846670190958947355801916604025588861116008626177,1569275433846670190958947355801916604025588861116008622081,1569275433846670190958947355801916604025588861116008597509,1569275433846670190958947355801916604025588861116008531973,1569275433846670190958947355801916604025588861116008138757,1569275433846670190958947355801916604025588861116007090181,1569275433846670190958947355801916604025588861116000798725,1569275433846670190958947355801916604025588861115984021509,1569275433846670190958947355801916604025588861115883358213,1569275433846670190958947355801916604025588861115749140485,1569275433846670190958947355801916604025588861115480705031,1569275433845242943266241395920858318056139365979590090071,1569275433846670190958947355801916604025588861116008628222,1569275433846670190958947355801916604025588861116008628222]
def P6:List Nat:=[34359738345,34359738157,34359729965,34359738319,34359476141,34359738319,34359738319]
def P7:List Nat:=[]
def P8:List Nat:=[1125899906842621,1125899906842613,1125899906842597,1125899906842085,1125899906842619,1125899906809829,1125899906842619,1125899839733741,1125899906842619,1125869842071533,1125835482333165,1125869842071437,1108277656027117,1125899906842619,1125869842071533,562949953421311,1125899906842619,1125899906842619]
def P9:List Nat:=[1361129467683753853853498429727072845821,1361129467683753853853498429727072813053,1361129467683753853853498429727072845819,1361129467683753853853498429727039291389,1361129467683753853853498429727072845819,1361129467683753853853498429727072845813,1361129467683753853853498429725999103989,1361129467683753853853498429727072845813,1361129467683753853558350524547720019957,1361129467683753853853498429727072845819,1361129467683753853853498429727072845805,1361129467683753844408765463987782418413,1361129467683753853853498429727072845805,1361129467683753853853498429727072845773,1361129467683753551622043526069779169229,1361129467683753853853498429727072845773,1361129467681277973774927669177274597325,1361129467683753853853498429727072845819,1361129467683753853853498429727072845757,1361129467604525691339234092133528895421,1361129467683753853853498429727072845757,1361129467683753853853498429727072845629,680564733841876926926749214863536422845,1361129467683753853853498429727072845819,1361129467683753853853498429727072845819]
def Qa:List Nat:=[16777201,16776441,16514297,16777023,16777023]
def Qb:List Nat:=[]
def Qc:List Nat:=[5070602400912917605986812821489,5070602400912917605986812820721,5070602400912917605986811772145,5070602400912917605986812821311,5070602400912917605986796044017,5070602400912917605986812821311,5070602400912917605986812818167,5070602400912917605986812814071,5070602400912917605986812789495,5070602400912773490798736933623,5070602400912917605986812821311,5070602382023451674508231941887,5070602400912917605986812821311,5070602400912917605986812821311]
def Qd:List Nat:=[]
def Qe:List Nat:=[68719476615,68719475847,68719213703,68719476543,68711088007,68719476543,68719475647,68719476543]
def Qf:List Nat:=[]
def Qg:List Nat:=[2251799813685241,2251799813685053,2251799813619517,2251799813685199,2251799812636605,2251799813685199,2251799276814269,2251799813685199,2251799813684925,2251799813684413,2251765453946045,2251799813684413,2251799813683389,1970324836972733,2251799813684413,2251799813685199]
def Qh:List Nat:=[]
def Qi:List Nat:=[549755813857,549755810801,549751616497,549755813119,549755809791,547608326143,549755813119,549755801599,549755805695,549755813119]
def Qj:List Nat:=[]
def Qk:List Nat:=[67108860,67107836,67108847,67108828,67092444,67108828,33554396,67108847,67108847]
def Ql:List Nat:=[73786976294838206449,73786976294838206073,73786976294837943929,73786976294838206399,73786976294834012025,73786976294838206399,73786976292690722681,73786976294838206399,73786976054320037753,73786975779442130809,73786976054320036217,73786905685575860089,73786976294838206399,73786976054320037753,73783035645164257145,73778532045536886649,73783035645164251001,55336291571454705529,73786976294838206399,73783035645164257145,73786976294838206399]
def Qm:List Nat:=[75557863725914323419121,75557863725914323410929,75557863725914323419071,75557863725914315030513,75557863725914323419071,75557863725914323418993,75557863725914189201265,75557863725914323418993,75557863725845603942257,75557863725914323419071,75557863725914323418865,75557863724814811791089,75557863725914323418865,75557863725914323418353,75557863690729951329521,75557863725914323418353,75557791668320285490417,75557863725914323419071,75557863725914323418097,75556710804409716571121,75557863725914323418097,37778931862957161708529,75557863725914323419071,75557863725914323419071]
def Qn:List Nat:=[2147483617,2147480561,2145383409,2147482879,2147479547,1610608639,2147482879,2147482879]
def Qo:List Nat:=[]
def Qp:List Nat:=[562949953421299,562949953421111,562949953290039,562949953421263,562949953420983,562949952372407,562949953420471,562932773551287,562949953419519,554153860397823,562949953421311,562949953421263]
def Qq:List Nat:=[]
def Qr:List Nat:=[134217724,134216700,134217711,134217692,134201308,134217692,67108828,134217711,134217711]
def Qs:List Nat:=[302231454903657293675209,302231454903657293669097,302231454903657226560233,302231454903657293675519,302231454903655414625001,302231454903653267141353,302231454903655414600425,302231452651855600939753,302231454903657293675519,302231454903655414625001,302229149060648079979247,302231454903657293675519,302199173101528301957871,302162279613380882854639,302199173101528301892335,299837989860093479351023,302231454903657293544191,226673591177742970256383,302231454903657293676543,302199173101528301957871,302231454903657293675519]
def Qt:List Nat:=[309485009821345068724780993,309485009821345068724518849,309485009821345068724780031,309485009821345068724778945,309485009821345068657670081,309485009821345068724778945,309485009819093268911093697,309485009821345068724780031,309485008668423564117934023,309485009821345068724780031,309485009821345068724776903,309484991374600995015225287,309485009821345068724776903,309485009821345068724768711,309482648638103633902161863,309485009821345068724768711,154742504910672534362378183,309485009821345068724780031,309485009821345068724780031]
def Qu:List Nat:=[2045,2043]
def Qv:List Nat:=[562949953421305,562949953421273,562949953421209,562949953413017,562949953421209,562949953421081,562949953420825,562949886311961,562949953420953,562949953421209,562949953421295]
def Qw:List Nat:=[4294967283,4294967099,4294704955,4294967103,4294967247]
def Qx:List Nat:=[]
def Qy:List Nat:=[2147483633,2147483505,2147483249,2147475057,2147483249,2139094641,2147483249,2147483583]
def Qz:List Nat:=[83076749736557242056487941267521505,83076749736557242056487941266997217,83076749736557242056487941267521279,83076749736557242056487941265424353,83076749736557242056487941267521505,83076749736557242056487941267519973,83076749736557242056487924087650789,83076749736557242056487941267521279,83076749736557242056487872548043237,83076749736557242056487941267521279,83076749736557242056452756895431141,83076749736557242056487941267521279,83076749736557242056487941267513855,83076749736556651760677582561862143,83076749736557242056487941267521279,83076749736557242056487941267510783,83076749736557242056487941267521279]
def QA:List Nat:=[]
def QB:List Nat:=[]
def QC:List Nat:=[4024,4031]
def QD:List Nat:=[]
def QE:List Nat:=[236,239]
def QF:List Nat:=[]
def QG:List Nat:=[]
def QH:List Nat:=[]
def QI:List Nat:=[2046,2046]
def QJ:List Nat:=[16382,16380,16380,16382]
def QK:List Nat:=[236,239]
def QL:List Nat:=[4093,4077,3821,4083,4083]
def QM:List Nat:=[131068,131055]
def QN:List Nat:=[16377,16367]
def QO:List Nat:=[34359738361,34359738329,34359738265,34359734169,34359738265,34359738137,34355543833,34359738137,34359738265,34359738351]
def QP:List Nat:=[524281,524279]
def QQ:List Nat:=[2019,1983]
def QR:List Nat:=[34359738361,34359738359]
def QS:List Nat:=[508,495]
def QT:List Nat:=[502,495]
def QU:List Nat:=[508,495]
def QV:List Nat:=[68719476721,68719475961,68719443193,68719476543,68718952191,68719476543,68719476543]
def QW:List Nat:=[131064,131007]
def QX:List Nat:=[134217713,134217201,134217663,67108863,134217663,134217663]
def QY:List Nat:=[524273,520177,524223,262143,524223,524223]
def QZ:List Nat:=[13,11]
def Q0:List Nat:=[249,247]
def Q1:List Nat:=[]
def Q2:List Nat:=[]
def Q3:List Nat:=[1125899906842608,1125899906842544,1125899906842544,1125899906383792,1125899905859504,1125899906383408,1125899906383664,1121501859872560,1125899906842591,1125899906383792,1125899906842591]
def Q4:List Nat:=[19807040628566084398385987581,19807040628566084398385987573,19807040628566084398385070071,19807040628566084398384021495,19807040628566084398385070039,19807040628566084398385069975,19807040628566084398385069975,19807040628566084398385070071,19807040628566084398385070071,19807040628561580798758617079,19807040628566084398385987447,19807040628530055601367023479,19807040628566084398385987191,19807040628421969210310131319,19807040626260241389172293239,19807040628566084398385987583,19806889512838632569739148919,19807040628566084398385987583,19807040628566084398385987579]
def Q5:List Nat:=[]
def Q6:List Nat:=[16327,16231,16319]
def Q7:List Nat:=[10384593717069655257060992658440041,10384593717069655257060992658439529,10384593717069655257060992658438505,10384593717069655257060992658436457,10384593717069655257060988363469161,10384593717069655257060992658436457,10384593717069655257060923938959721,10384593717069655257060992658432367,10384593717069655257060992658407791,10384593717069655254809192844747119,10384593717069655257060992658432367,10384593717069654968830616506724863,10384593717069655257060992658403839,10384593717069655257060992658272767,10384593717069360109155813305577983,10384593717069655257060992658440191,10384593716465192347253678071085417,10384593717069655257060992658436457,10384593717069655257060992657653097,10384593407584645435715923933396329,10384593717069655257060992658439935,10384593717069655257060992657128809,10384593717069655257060992655031659,10384573910029026690976594269044075,10384593717069655257060992655031659,10384593717069655257060992655031659,10384593717069655257060992655031659,10384593717069655257060992658439935]
def Q8:List Nat:=[]
def Q9:List Nat:=[33554401,33554175]
def Ra:List Nat:=[508,495]
def Rb:List Nat:=[252,247]
def Rc:List Nat:=[508,495]
def Rd:List Nat:=[131056,130544,129528,130552,130815]
def Re:List Nat:=[65529,65519]
def Rf:List Nat:=[72057594037927914,72057594037927786,72057594037927786,72057594037927786,72057594037927530,72057594037927018,72057594035829866,72057594037927018,72057592964185194,72057594037926511,72057594037924463,72022409665837695,72057594037926655,72057594037927935,72057594037927679,72057594037927871]
def Rg:List Nat:=[]
def Rh:List Nat:=[262140,262108,261596,262108,131036,262127,262127]
def Ri:List Nat:=[13,11]
def Rj:List Nat:=[199,191]
def Rk:List Nat:=[8185,8175]
def Rl:List Nat:=[508,495]
def Rm:List Nat:=[8184,8175]
def Rn:List Nat:=[524284,523900,523388,523868,458332,524271,523900,524271]
def Ro:List Nat:=[524278,523894,523382,523862,458326,524271,523894,524271]
def Rp:List Nat:=[524284,523900,523388,523868,458332,524271,523900,524271]
def Rq:List Nat:=[2361183241434822606832,2361183241434822475760,2361183241434822606591,2361183241434822082544,2361183241434822606832,2361183241434822605298,2361183241434822603250,2361183241400462864882,2361183241434822606591,2361183241159944696306,2361183241434822603775,2361182678484869181938,2361183241434822606591,2361183241434822606591]
def Mw:List Nat:=[8188,8175]
def Mx:List Nat:=[8188,8175]
def My:List Nat:=[131056,130802,131039,131039]
def Mz:List Nat:=[4070,4007,4039,3023,4095,4079]
def MA:List Nat:=[65520,65503]
def MB:List Nat:=[1048568,1048475,1048559]
def MC:List Nat:=[524284,523900,523388,523868,458332,524271,523900,524271]
def MD:List Nat:=[524284,523900,523388,523868,458332,524271,523900,524271]
def ME:List Nat:=[2042,2047]
def MF:List Nat:=[262132,260084,262132,131060]
def MG:List Nat:=[536870881,536854497,536805345,536870849,268435455]
def MH:List Nat:=[524284,523900,523388,523868,458332,524271,523900,524271]
def MJ:List Nat:=[562949953421116,562949953419772,562949953419260,562949953421055]
def MK:List Nat:=[21778071482940061661655974875633165532912,21778071482940061661655974875633165532400,21778071482940061661655974875633165531376,21778071482940061661655974875633157142768,21778071482940061661655974875633165533183,21778071482940061661655974875632628660464,21778071482940061661655974875633165533183,21778071482940061661655974875598805793008,21778071482940061661655974875633165531376,21778071482940061661655974875633165531376,21778071482940061661655974875633165525232,21778071482940061661655973749733258682608,21778071482940061661655974875633165529328,21778071482940061661655974875633165529328,21778071482940061661655974875633165525232,21778071482940061661360826970453812703472,21778071482940061656933608392763520315632,21778071482939906919151064203098803138800,21778071482940061661655974875633165524210,21778071482940061661655974875633165532400,21778071482940061661655974875633165482992,21778071482940061661655974875633165515248,21778071482940061661655974875633165318640,21778071482940061661655974875633165057520,21778061098346344592000717814640506617328,21778071482940061661655974875633165516016,21778071482940061661655974875633165516018,21778071482940061661655974875633165532400,21778071482940061661655974875633165516016,21778071482940061661655974875633165516020,21778071482940061661655974875633165532400]
def ML:List Nat:=[254,251,251]
def MM:List Nat:=[562949953421240,562949953417144,562949953421240,562949953421112,562948879679288,562949953421112,562949953421112]
def MN:List Nat:=[72057594037927864,72057594037927736,72057594037927486,72057594037926974,72057594037402686,72057594037926974,72057594037926974,72057594037926718,72057592964184894,72057594037926718,72057594037926718,72057594037926718]
def MO:List Nat:=[36893488147419103164,36893488147419070396,36893488147419103036,36893488147419102780,36893488147419102268,36893488138829167676,36893488147419102268,36893488147419101244,36893479351326079036,36893488147419101244,36893488147419102268]
def MP:List Nat:=[144115188075855864,144115188075855612,144115188075855100,144115188075854076,144115188075852028,144115188075847934,144115183780880638,144115170895979006,144115188075848190,144115188075848190,144115188075848190,144115188075853311,143552238122432511,144115188075855679,141300438308747263,144115188075855679,126100789566371839,144115188075855679]
def MQ:List Nat:=[4294967226,4294967102,4294958910,4294967102,4294967102,4294967102]
def MR:List Nat:=[10889035741470030830827987437816582766584,10889035741470030830827987437816582766456,10889035741470030830827987437816582766200,10889035741470030830827987437816582749816,10889035741470030830827987437816582766200,10889035741470030830827987437812287798904,10889035741470030830827987437816582766200,10889035741470030830827987437679143812728,10889035741470030830827987437816582766527,10889035741470030830827987435617559510648,10889035741470030830827987437816582766527,10889035741470030830827987437816582766200,10889035741470030830825681594807369072248,10889035741470030830827987437816582765688,10889035741470030830791093949669163662456,10889035741470030830827987437816582765688,10889035741470030528596532534159289089144,10889035741470030830827987437816582765688,10889035741153118180770930087442406964856,10889035741470030830827987437816582765176,10889035731328826029002152225842957122168,10889035741470030830827987437816582765176,10888952664720294273585930949875315243640,10889035741470030830827987437816582765176,10889035741470030830827987437816582766527]
def MS:List Nat:=[131068,131055]
def MT:List Nat:=[19342813113834066795298800,19342813113834066795298808,19342813113834066795297276,19342813113825270702275068,19342813113834066795297276,19342812537373314491873788,19342813113834066795297276,19342794667089993085745660,19342813113834066795297276,19342813113834066795297276,19342813113834066795297276,19342813113834066795298559]
def MU:List Nat:=[374144419156711147060143317175368453031918731001840,374144419156711147060143317175368453031918731001848,374144419156711147060143317175368453031918730998780,374144419156711147060143317175368453023122637976572,374144419156711147060143317175368453031918730998780,374144419156711147060143317175367300110414124151804,374144419156711147060143317175368453031918730998780,374144419156711147060143317175331559543771311895548,374144419156711147060143317175368453031918730999807,374144419156711147060143317175368453031918731001087,374144419156711147060143317175368453031918730998780,374144419156711147060143317175368453031918730998780,374144419156711147060143317175368453031918730998780,374144419156711141867846458640540824501422401778684,374144419156711147060143317175368453031918730998780,374144419156030582326301440248441703817055194575868,374144419156711147060143317175368453031918730998780,374144419134933075577203255513712478156285565465596,374144419156711147060143317175368453031918730998780,374144419156711147060143317175368453031918730998780,374144419156711147060143317175368453031918730998780,374144419156711147060143317175368453031918730999807,374144419156711147060143317175368453031918731001087]
def MV:List Nat:=[524282,524266,524286,524282,524026,524282,524282,524283]
def MW:List Nat:=[33554426,33554410,33554430,33554426,33554170,33554426,33554426,33538042,33554426,33554426,33554427]
def MX:List Nat:=[75557863725914323418866,75557863725914323418354,75557863725914323352818,75557863725845603941618,75557863725914323418354,75557859222314696047858,75557863725914323418610,75557863725914323418866]
def MY:List Nat:=[126,123]
def MZ:List Nat:=[8589934590,8589934590,8589934590,8589934590,8589934587]
def M5:List Nat:=[32760,32703]
def M6:List Nat:=[68719476704,68719476704,68719476712,68719476731,68719475711]
def M7:List Nat:=[62,59]
def M8:List Nat:=[268435440,268173297,268435449,268434687,268434687]
def M9:List Nat:=[]
def Na:List Nat:=[]
def Nb:List Nat:=[]
def Nc:List Nat:=[]
def Nd:List Nat:=[]
def Nf:List Nat:=[]
def Ng:List Nat:=[]
def Nh:List Nat:=[]
def Ni:List Nat:=[]
def Nj:List Nat:=[]
def Nk:List Nat:=[]
def Nl:List Nat:=[]
def Nm:List Nat:=[]
def Nn:List Nat:=[]
def No:List Nat:=[]
def Np:List Nat:=[]
def all:List (List Nat):=[k0,k1,k2,k3,k4,k5,k6,k7,k8,k9,PY,PZ,JL,P0,P1,P2,P4,P6,P7,P8,P9,Qa,Qb,Qc,Qd,Qe,Qf,Qg,Qh,Qi,Qj,Qk,Ql,Qm,Qn,Qo,Qp,Qq,Qr,Qs,Qt,Qu,Qv,Qw,Qx,Qy,Qz,QA,QB,QC,QD,QE,QF,QG,QH,QI,QJ,QK,QL,QM,QN,QO,QP,QQ,QR,QS,QT,QU,QV,QW,QX,QY,QZ,Q0,Q1,Q2,Q3,Q4,Q5,Q6,Q7,Q8,Q9,Ra,Rb,Rc,Rd,Re,Rf,Rg,Rh,Ri,Rj,Rk,Rl,Rm,Rn,Ro,Rp,Rq,Mw,Mx,My,Mz,MA,MB,MC,MD,ME,MF,MG,MH,MJ,MK,ML,MM,MN,MO,MP,MQ,MR,MS,MT,MU,MV,MW,MX,MY,MZ,M5,M6,M7,M8,M9,Na,Nb,Nc,Nd,Nf,Ng,Nh,Ni,Nj,Nk,Nl,Nm,Nn,No,Np]
def nth {α:Type} (d:α):List α→Nat→α
 | [],_=>d
 | x::_,0=>x
 | _::r,n+1=>nth d r n
def fl (f r:Nat):Nat:=cond (Nat.beq f 76 && Nat.beq r 6 || Nat.beq f 10 && Nat.beq r 22) (2 ^ 4000) (cond (Nat.beq f 12 && Nat.beq r 12) (2 ^ 4000+17*2 ^ 4003) (cond (Nat.beq f 12 && Nat.beq r 17) (2 ^ 4000+26*2 ^ 4003) 0))
def kt (f r:Nat):Nat:=Nat.add (nth 0 (nth [] all f) r) (fl f r)
end Go.Eng.Kt
end
section
namespace Go.Eng
open Go.ChangeShapes Go.RowKit
set_option linter.unusedVariables false

theorem tg {H:Type} {enc:TypeId×Value→H} {P:Program} {f:Func} {s:ChangeSpec} {apart fresh handsOn again:Bool} {W W':World} {args:Array Value} {v:Value} {ds gs:List (DataW H)} {before pa pv:List MemPlace}
 (hW:DataW.Whole enc P f.params.toList s.vars apart W args.toList ds gs before) (hb:Below W.heap.size W W')
 (hres:∀ (b:Nat) (sp:Nat→Bool) (hd:Bool),DataW.TrodAll enc P W' b sp hd f.resultTypes.toList (v.resultList f.resultTypes.size) (s.fn H (ds++gs)).results [])
 (hargs:∀ sp:Nat→Bool,(∀ p ∈ before,sp p.block=true)→DataW.TrodAll enc P W' 0 sp true f.params.toList args.toList (s.fn H (ds++gs)).args pa)
 (hvars:∀ sp:Nat→Bool,(∀ p ∈ before,sp p.block=true)→DataW.TrodVars enc P W' sp s.vars (s.fn H (ds++gs)).vars pv) (hps:before=pa++pv)
 (hok:∀ (j:Nat) (t:TypeId) (r:Value),f.resultTypes[j]?=some t→(v.resultList f.resultTypes.size)[j]?=some r→Value.okWide P W' .any 0 t r) :
 s.post enc P f apart fresh handsOn again W args v W':=by
 have old:∀ p ∈ before,p.block<W.heap.size:=fun p hp=>hW.lt p hp
 have hz:=hW
 obtain ⟨_,_,_,_,_,hz,hn⟩:=hz
 refine ⟨ds,gs,before,[],pa,pv,hW,hres _ _ _,hargs _ (fun p hp=>by simpa using old p hp),hvars _ (fun p hp=>by simpa using old p hp),hb.frame _,fun _=>⟨hok,_,_,[]++pa++pv,⟨[]++pa,pv,trodAll_append (hargs _ (fun _ _=>rfl)) (hres _ _ _),hvars _ (fun _ _=>rfl),rfl,?_,?_⟩,?_⟩⟩
 · intro b off hp
   have hp':MemPlace.cell b off ∈ before:=by rw[hps];simpa using hp
   rw[hb.frozen (old _ hp')]
   exact hz b off hp'
 · intro ha
   have:=hn ha
   rw[hps] at this
   simpa using this
 · intro p hp _
   rw[hps]
   simpa using hp

end Go.Eng
end
section
namespace Go.Eng
open Go.ChangeShapes
set_option linter.unusedVariables false
set_option linter.unusedSimpArgs false

def Pw (w:World):aX:=fun b o=>w.cell? ⟨b,o,none⟩
theorem bM.all (w:World):bM (Pw w) Mu.no [⟨true,[]⟩] w where
 pers:=fun b o v h=>h
 live:=fun d i v B hg hB=>by
  cases d<;>simp[aN,aE] at hg<;>exact absurd hg.2.symm hB
 apart:=fun d i v B d' i' v' B' b o t o' t' hg hB hg' hB' hm hm'=>by cases hm
 dom:=fun d i v t hm=>by cases hm

theorem AH {P:Program} {call:bG} (hC:fE P call) {f:FuncId} {args:List AV} {x:Bool} {H':ae} (h:call (.fn f) args [⟨true,[]⟩]=some (.bool x,H')) {cargs:Array Value} {w:World} (hA:ke (Pw w) Mu.no args cargs) :
 Calls P f cargs w (fun e w'=>e=.returned (.bool x)∧Go.RowKit.Below w.heap.size w w'):=by
 have:=(hC (.fn f) args _ (.bool x) H' h (by simp) _ _ w cargs (bM.all w) hA).2
 refine (callsIn_wide.1 this).mono ?_
 rintro e w' ⟨cv,rfl,_,p',M',hE,hv⟩
 cases hv
 exact ⟨rfl,(hE.stay.weaken (fun b _ _ d i v B _ _ _ o t hm=>by cases hm)).below⟩

def my (k:IntKind) (P:Program) (t:TypeId) (n:Nat):Prop:=∀ (H:Type) (enc:TypeId×Value→H) (w:World) (base:Nat) (sp:Nat→Bool) (held:Bool) (fuel:Nat) (cs:List Value) (x:DataW H×List MemPlace),
 DataW.trod enc P w base sp held fuel t cs=some x→cs.length=n∧∀ j,j<n→∃ z:Int,cs[j]?=some (.int k z)∧(Lit.int k z).wf=true
abbrev tu (P:Program) (t:TypeId) (n:Nat):Prop:=my .i64 P t n
theorem ln {P:Program} {t:TypeId} {k:IntKind} (ht:P.underlying t=some (.int k)):my k P t 1:=by
 intro H enc w base sp held fuel cs x h
 obtain ⟨n,rfl,_,hw⟩:=DataW.trod_int ht h
 refine ⟨rfl,fun j hj=>?_⟩
 obtain rfl:j=0:=by omega
 exact ⟨n,rfl,hw⟩
theorem kq {P:Program} {k:IntKind} {t:TypeId} {f0 f1:Field} {n0 n1:Nat} (ht:P.underlying t=some (.struct #[f0,f1])) (h0:my k P f0.type n0) (h1:my k P f1.type n1) (o0:f0.offset=0) (o1:f1.offset=n0) (c0:P.cellsOf f0.type=n0) (c1:P.cellsOf f1.type=n1) (c:P.cellsOf t=n0+n1):my k P t (n0+n1):=by
 intro H enc w base sp held fuel cs x h
 obtain ⟨y0,y1,n,_,hl,g0,g1⟩:=trod_struct2 ht h
 obtain ⟨k0,k1⟩:=h0 _ _ _ _ _ _ _ _ _ g0
 obtain ⟨m0,m1⟩:=h1 _ _ _ _ _ _ _ _ _ g1
 refine ⟨by rw[hl,c],fun j hj=>?_⟩
 by_cases hlt:j<n0
 · obtain ⟨z,hz,hw⟩:=k1 j hlt
   refine ⟨z,?_,hw⟩
   rw[o0,c0] at hz
   simpa[List.getElem?_take,hlt] using hz
 · obtain ⟨z,hz,hw⟩:=m1 (j-n0) (by omega)
   refine ⟨z,?_,hw⟩
   rw[o1,c1] at hz
   have hlt2:j-n0<n1:=by omega
   simpa[List.getElem?_take,hlt2,List.getElem?_drop,show n0+(j-n0)=j by omega] using hz

theorem qS {w:World} {a:Addr}:∀ (l:List Nat) (cs:List Value),(l.mapM fun i=>w.cell? (a.add i))=some cs→∀ (j i:Nat),l[j]?=some i→∃ v,cs[j]?=some v∧w.cell? (a.add i)=some v
 | [],cs,h,j,i,hi=>by simp at hi
 | x::l,cs,h,j,i,hi=>by
   simp only[List.mapM_cons,Option.bind_eq_bind,Option.bind_eq_some_iff,Option.pure_def,Option.some.injEq] at h
   obtain ⟨v,hv,r,hr,rfl⟩:=h
   cases j with
   | zero=>simp at hi;subst hi;exact ⟨v,rfl,hv⟩
   | succ j=>exact qS l r hr j i (by simpa using hi)

theorem ss {P:Program} {k:IntKind} {t e:TypeId} {n:Nat} (ht:P.underlying t=some (.slice e)) (he:my k P e n) (hn:0<n) (hc:P.cellsOf e=n) {H:Type} {enc:TypeId×Value→H} {w:World} {base:Nat} {sp:Nat→Bool} {held:Bool} {fuel:Nat} {v:Value} {x:DataW H×List MemPlace}
 (hspot:∀ a l c,v=.slice (some a) l c→a.spot=none) (h:DataW.trod enc P w base sp held fuel t [v]=some x) :
 (v=.slice none 0 0)∨∃ (zs:Nat→Int) (len:Nat),ar (Pw w) Mu.no (.slcT none (.F (fun j=>.int k (zs j)) (len*n)) n len false) v∧∀ j,j<len*n→(Lit.int k (zs j)).wf=true:=by
 rcases DataW.trod_slice ht h with ⟨h0,_⟩ | ⟨a,len,cap,elems,rest,m,_,hcs,_,_,hl,_,hlen,hel,_,_⟩
 · left;simpa using h0
 · right
   simp only[List.cons.injEq,and_true] at hcs
   have hsp:=hspot a len cap hcs
   have cell:∀ j,j<len*n→∃ z:Int,w.cell? ⟨a.block,a.off+j,none⟩=some (.int k z)∧(Lit.int k z).wf=true:=by
    intro j hj
    have hi:j / n<len:=by rw[Nat.div_lt_iff_lt_mul hn];exact hj
    have:=hel (j / n) hi
    have hex:elems[j / n]?≠none:=by simp;omega
    rw[← this] at hex
    cases hcl:w.cells? base (a.add (j / n*P.cellsOf e)) (P.cellsOf e) with
    | none=>rw[hcl] at hex;simp at hex
    | some cs =>
      rw[hcl] at hex
      cases hy:DataW.trod enc P w base sp held m e cs with
      | none=>simp[hy] at hex
      | some y =>
        obtain ⟨k0,k1⟩:=he _ _ _ _ _ _ _ _ _ hy
        obtain ⟨z,hz,hw⟩:=k1 (j % n) (Nat.mod_lt _ hn)
        unfold World.cells? at hcl
        split at hcl
        · obtain ⟨u,hu,hcu⟩:=qS _ _ hcl (j % n) (j % n) (by rw[hc];simp[Nat.mod_lt _ hn])
          rw[hz] at hu
          have hu:=Option.some.inj hu
          subst hu
          refine ⟨z,?_,hw⟩
          rw[hc] at hcu
          have e1:(a.add (j / n*n)).add (j % n)=⟨a.block,a.off+j,none⟩:=by
           have hd:=Nat.div_add_mod j n
           have hd2:j / n*n+j % n=j:=by rw[Nat.mul_comm];exact hd
           cases a
           simp only at hsp
           subst hsp
           have ad:∀ (b o i:Nat),Addr.add ⟨b,o,none⟩ i=⟨b,o+i,none⟩:=fun b o i=>by
            unfold Addr.add
            split
            · rename_i h0;subst h0;rfl
            · rfl
           rw[ad,ad,Nat.add_assoc,hd2]
          rw[← e1];exact hcu
        · simp at hcl
   obtain ⟨zs,hzs⟩:∃ zs:Nat→Int,∀ j,j<len*n→w.cell? ⟨a.block,a.off+j,none⟩=some (.int k (zs j))∧(Lit.int k (zs j)).wf=true :=
    ⟨fun j=>if h:j<len*n then Classical.choose (cell j h) else 0,fun j hj=>by
      have:=Classical.choose_spec (cell j hj)
      simp only[dif_pos hj]
      exact this⟩
   refine ⟨zs,len,?_,fun j hj=>(hzs j hj).2⟩
   rw[hcs]
   obtain ⟨b,o,sp'⟩:=a
   simp only at hsp
   subst hsp
   exact .slcT (o:=o) (fun j=>.int k (zs j)) (fun j hj=>(hzs j hj).1) (fun j hj=>rfl) (fun j hj=>.int _ _) hl (fun h=>by cases h) (.inr rfl)

end Go.Eng
end
section
namespace Go.Eng
set_option linter.unusedVariables false
set_option linter.unusedSimpArgs false
noncomputable section

def IM (base:cr) (d0 i0:Nat) (args0:List AV) (H0:ae) (u:Tr (AV×ae)):cr:=fun tgt args H=>match tgt with
 | .round d i=>cond (Nat.beq d d0 && Nat.beq i i0) (.reqP (py args=args0∧H=H0) (u.bind fun y=>.ok ((y.1,none),y.2))) .bad
 | .fn g=>base (.fn g) args H
 | .mode=>base .mode args H
theorem vf {base:cr} {call:bG} (h:base.Ok call) {d0 i0:Nat} {args0:List AV} {H0:ae} {u:Tr (AV×ae)} (k:∀ x,u.run=some x→call (.round d0 i0) args0 H0=some x):(IM base d0 i0 args0 H0 u).Ok call:=by
 refine ⟨h.1,fun tgt args H x hx=>?_⟩
 cases tgt with
 | fn g=>exact h.2 _ _ _ _ hx
 | mode=>exact h.2 _ _ _ _ hx
 | round d i =>
   unfold IM at hx
   obtain ⟨hc,hx2⟩:=Tr.bg hx
   clear hx
   rw[Bool.and_eq_true] at hc
   have e1:=Nat.eq_of_beq_eq_true hc.1
   have e2:=Nat.eq_of_beq_eq_true hc.2
   subst e1;subst e2
   obtain ⟨⟨e3,e4⟩,hx3⟩:=Tr.fX hx2
   obtain ⟨y,h1,h2⟩:=Tr.bind_some hx3
   rw[e3,e4,k _ h1,← Tr.ab h2]

theorem dE {P:Program} {ora:bG→FuncId→List AV→ae→Option (AV×ae)} {KT:FuncId→Nat→Nat} {fu n d i:Nat} {args:List AV} {H H1 H2:ae} {l l1 l2:bw} {fr fr1 fr2:aO} {e:Ex} {lv:b6}
 (hg:aN H d i=(0,.loop l)) (hl:aY H d=false) (hs:l.state=.ready) (hp:oA l.nt (qc (d+1) l.fr) l.params (args.map (xU 1))=some fr)
 (h1:exec ⟨P,dN P ora KT fu n,fu,l.fn,l.nt,KT l.fn,some (d+1,i)⟩ l.assign fr (⟨false,[]⟩::H)=some (.normal,fr1,H1)) (hg1:aN H1 (d+1) i=(0,.loop l1)) (hs1:l1.state=.ready)
 (h2:exec ⟨P,dN P ora KT fu n,fu,l.fn,l.nt,KT l.fn,some (d+1,i)⟩ l.body fr1 (eK H1 (d+1) i (0,.loop { l1 with state:=.busy }))=some (e,fr2,lv::H2)) (hg2:aN H2 d i=(0,.loop l2)) :
 dN P ora KT fu (n+1) (.round d i) args H=some (.bool (fm e).isNone,eK H2 d i (0,.loop { l2 with state:=if (fm e).isNone then .ready else .done,pending:=fm e })):=by
 simp only[dN,hg,hl,Bool.false_eq_true,if_false,hs,hp,h1,hg1,hs1,h2,hg2]
theorem c5 {cx:Cx} {f:Operand} {ps:Array Tmp} {as bd:Code} {fr:aO} {H H1:ae} {g:FuncId} {a b:List AV} {v:AV} {l:bw} {e:Ex} (hf:cq fr f=.fn (.func g) a b) (hh:cx.here H=true) (hl:aY H 0=false)
 (hc:cx.call (.fn g) (a++(.yld 0 (bm H)::b)) (iV fr H cx ps as bd)=some (v,H1)) (hg:aN H1 0 (bm H)=(0,.loop l)) (hb:(l.state == .busy)=false) (he:vV l.pending=some e) :
 exec cx (.rangeFunc f ps as bd) fr H=some (e,fr,dQ H1 0 (bm H)):=by
 unfold exec
 rw[hf]
 dsimp only
 rw[hh,hl]
 simp only[Bool.not_true,Bool.false_or,Bool.false_eq_true,if_false,hc,hg,hb,he]

end
end Go.Eng
end
section
namespace Go.Eng
set_option linter.unusedVariables false
set_option linter.unusedSimpArgs false
noncomputable section

def Tr.all {α:Type} (T:Tr α) (Q:α→Prop):Prop:=∃ x,T.run=some x∧Q x
theorem Tr.aq {α:Type} {a:α} {Q:α→Prop} (h:Q a):(Tr.ok a).all Q:=⟨a,rfl,h⟩
theorem Tr.an {α:Type} {c:Bool} {a b:Tr α} {Q:α→Prop} (h1:c=true→a.all Q) (h2:c=false→b.all Q):(Tr.ite c a b).all Q:=by
 cases c with
 | true=>exact h1 rfl
 | false=>exact h2 rfl
theorem Tr.ao {α:Type} {c:Bool} {a:Tr α} {Q:α→Prop} (h:c=true) (k:a.all Q):(Tr.req c a).all Q:=by
 subst h;exact k
theorem Tr.ak {α:Type} {p:Prop} {a:Tr α} {Q:α→Prop} (h:p) (k:a.all Q):(Tr.reqP p a).all Q:=by
 obtain ⟨x,h1,h2⟩:=k
 exact ⟨x,(Tr.bc h).trans h1,h2⟩
theorem HE (b:Bool):(aD b=true)=(b=false):=by rw[cL];cases b<;>simp
theorem HD (b:Bool):(aD b=false)=(b=true):=by rw[cL];cases b<;>simp
theorem Gw (a b:Bool):(cX a b=true)=(a=true∧b=true):=by rw[kf];cases a<;>cases b<;>simp
theorem Gv (a b:Bool):(cX a b=false)=¬ (a=true∧b=true):=by rw[kf];cases a<;>cases b<;>simp
theorem JW (x y:Int):(bA x y=true)=(x<y):=by rw[cj];simp
theorem JV (x y:Int):(bA x y=false)=(y≤x):=by rw[cj];simp
theorem JQ (x y:Int):(dA x y=true)=(x≤y):=by rw[er];simp
theorem JP (x y:Int):(dA x y=false)=(y<x):=by rw[er];simp
theorem Jp (x y:Int):(aF x y=true)=(x=y):=by rw[bY];simp
theorem Jo (x y:Int):(aF x y=false)=¬ (x=y):=by rw[bY];simp
theorem JI (x:Int) (n:Nat):(br x n=true)=(0≤x∧x<(n:Int)):=by rw[dW];simp
theorem GG (x:Int) (n:Nat):(mN x n=true)=(0≤x∧x≤(n:Int)):=by rw[uw];simp
theorem JY (x y:Nat):(bt x y=true)=(x<y):=by rw[dJ];simp
theorem JX (x y:Nat):(bt x y=false)=(y≤x):=by rw[dJ];simp
theorem JS (x y:Nat):(cB x y=true)=(x≤y):=by rw[eB];simp
theorem JR (x y:Nat):(cB x y=false)=(y<x):=by rw[eB];simp
theorem Jr (x y:Nat):(dH x y=true)=(x=y):=by rw[cu];simp
theorem Jq (x y:Nat):(dH x y=false)=¬ (x=y):=by rw[cu];simp
theorem JJ (o m p n:Nat):(kO o m p n=true)=(p≤o∧o+m≤p+n):=by rw[fH];simp
theorem CA (x y:Int):Cz x y=min x y:=by rw[zS];omega
theorem Cy (x y:Int):Cw x y=max x y:=by rw[zR];omega
theorem Fs (m n b:Nat):(gx m n b=true)=((m+n)*b≤70368744177664∧m+n≤70368744177664):=by rw[xu];exact decide_eq_true_eq
theorem JZ (l c:Int) (b:Nat):(Gj l c b=true)=(0≤l∧l≤c∧c.toNat*b≤70368744177664∧c.toNat≤70368744177664):=by rw[yu];exact decide_eq_true_eq
theorem da (n:Nat):Int.ofNat n=(n:Int):=rfl
theorem wU:Int.negSucc 1=-2:=rfl
theorem uV:Int.negSucc 0=-1:=rfl
theorem wV:Int.negSucc 2=-3:=rfl
theorem FO {x:Int} (h:0≤x):(x+1).toNat=x.toNat+1:=by omega
theorem bX {k:Int} (h1:-9223372036854775808≤k) (h2:k≤9223372036854775807):IntKind.i64.wrap k=k:=Go.IntWalk.i64_in _ (by omega)

theorem nV:(∀ x y:Int,(bA x y=true)=(x<y)) ∧
 (∀ x y:Int,(bA x y=false)=(y≤x)) ∧
 (∀ x y:Int,(dA x y=true)=(x≤y)) ∧
 (∀ x y:Int,(dA x y=false)=(y<x)) ∧
 (∀ x y:Int,(aF x y=true)=(x=y)) ∧
 (∀ x y:Int,(aF x y=false)=¬ (x=y)) ∧
 (∀ b:Bool,(aD b=true)=(b=false)) ∧
 (∀ b:Bool,(aD b=false)=(b=true)) ∧
 (∀ a b:Bool,(cX a b=true)=(a=true∧b=true)) ∧
 (∀ a b:Bool,(cX a b=false)=¬ (a=true∧b=true)) ∧
 (∀ (x:Int) (n:Nat),(br x n=true)=(0≤x∧x<(n:Int))) ∧
 (∀ (x:Int) (n:Nat),(mN x n=true)=(0≤x∧x≤(n:Int))) ∧
 (∀ x y:Nat,(bt x y=true)=(x<y)) ∧
 (∀ x y:Nat,(bt x y=false)=(y≤x)) ∧
 (∀ x y:Nat,(cB x y=true)=(x≤y)) ∧
 (∀ x y:Nat,(cB x y=false)=(y<x)) ∧
 (∀ x y:Nat,(dH x y=true)=(x=y)) ∧
 (∀ x y:Nat,(dH x y=false)=¬ (x=y)) ∧
 (∀ o m p n:Nat,(kO o m p n=true)=(p≤o∧o+m≤p+n)) ∧
 (∀ m n b:Nat,(gx m n b=true)=((m+n)*b≤70368744177664∧m+n≤70368744177664)) ∧
 (∀ (l c:Int) (b:Nat),(Gj l c b=true)=(0≤l∧l≤c∧c.toNat*b≤70368744177664∧c.toNat≤70368744177664)) ∧
 (∀ x y:Int,Cz x y=min x y) ∧
 (∀ x y:Int,Cw x y=max x y) ∧
 (∀ (o:Nat) (i:Int) (s:Nat),al o i s=o+i.toNat*s) ∧
 (∀ a b:Nat,au a b=a+b) ∧
 (∀ a b:Nat,fM a b=a-b) ∧
 (∀ i:Int,fi i=i.toNat) ∧
 (∀ (k:IntKind) (x y:Int),ay k x y=k.wrap (x+y)) ∧
 (∀ (k:IntKind) (x y:Int),az k x y=k.wrap (x-y)) ∧
 (∀ (k:IntKind) (x y:Int),bS k x y=k.wrap (x*y)) ∧
 (∀ n:Nat,Int.ofNat n=(n:Int)) ∧
 (Int.negSucc 0=-1) ∧
 (Int.negSucc 1=-2) ∧
 (Int.negSucc 2=-3) ∧
 (∀ {k:Int},-9223372036854775808≤k→k≤9223372036854775807→IntKind.i64.wrap k=k) ∧
 (∀ {x:Int},0≤x→(x+1).toNat=x.toNat+1) ∧
 ((0:Int).toNat=0) ∧
 (∀ n:Nat,0*n=0) ∧
 (∀ n:Nat,1*n=n) ∧
 (∀ n:Nat,(n:Int).toNat=n) ∧
 (((0:Nat):Int)=0) ∧
 (((1:Nat):Int)=1) ∧
 (∀ n:Nat,0+n=n) ∧
 ((¬ True)=False) ∧
 ((¬ False)=True) ∧
 ((true=false)=False) ∧
 ((false=true)=False) ∧
 ((!true)=false) ∧
 ((!false)=true) ∧
 (∀ p:Prop,(True∧p)=p) ∧
 (∀ p:Prop,(p∧True)=p) ∧
 (∀ p:Prop,(False∧p)=False) ∧
 (∀ p:Prop,(p∧False)=False) :=
 ⟨JW,JV,JQ,JP,Jp,Jo,HE,HD,Gw,Gv,JI,GG,JY,JX,JS,JR,Jr,Jq,JJ,Fs,JZ,CA,Cy,bT,bP,fh,ir,aR,aQ,bu,da,uV,wU,wV,bX,FO,Int.toNat_zero,Nat.zero_mul,Nat.one_mul,Int.toNat_natCast,Int.natCast_zero,Int.natCast_one,Nat.zero_add,not_true_eq_false,not_false_eq_true,Bool.true_eq_false,Bool.false_eq_true,Bool.not_true,Bool.not_false,true_and,and_true,false_and,and_false⟩
theorem nW:(∀ a b:Nat,aI a b=a*b)∧(∀ {α:Type} (a:α),(a=a)=True)∧(∀ {n:Nat},((no_index (OfNat.ofNat n):Nat):Int)=OfNat.ofNat n):=⟨gl,fun a=>eq_self a,Int.cast_ofNat_Int⟩
end
end Go.Eng
end
