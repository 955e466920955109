/- The engine: functions whose result is a struct of three cells, of which the second is a slice of an own row, which their caller may write. -/
import Derived.Test.YtgphpjdchnfjlaaDoorV2EngThx10
import Derived.Test.YtgphpjdchnfjlaaDoorV2EngOrax2
import Derived.ProofKit
import Derived.Test.YtgphpjdchnfjlaaDoorV2Gp1x4
import Derived.Lib.TrailingZeros
set_option linter.unusedVariables false
set_option linter.unusedSimpArgs false
section
namespace Go.Eng
theorem C8 {P:Program} {f:FuncId} {fn:Func} {c:Code} (hf:P.funcs[f]?=some fn) (hb:fn.body=some c) {args:List AV} (hle:args.length≤fn.ntmps) {H:aa} {e:Ex} {fr:az} {l:bA} {H':aa} (he:e=.normal∨e=.ret) {v0 v2:AV}
 {j ver off sz len:Nat} {cap:Option Nat} {q:Row} (hv:gA P fr (l::H') fn.results.toList=some [.agg (.G [v0,.slc 0 j ver off sz len cap,v2])]) (hq:cK (l::H') 0 j ver=some q) (hl0:l.lock=false) (hl1:aE H' 0=false) (hne:H'≠[])
 (hC:dA P Fence.wide none fn.ntmps c (fe 0 args) (⟨false,[]⟩::H) e fr (l::H')) {p:aD} {M:Mu} {w:World} {cargs:Array Value} (hH:a7 p M H w) (hA:ey p M args cargs) :
 CallsIn Fence.wide 0 P f cargs w (fG p M H w (c8 (bC l.bs j ((aw (l::H') 0 j).1,.dead)) 5 (.agg (.G [v0,.slc 1 (ao H' 0) 0 off sz len cap,v2]))) (bu H' 0 (.row (jn 1 q)))):=by
 refine callsIn_of_wp_marks hf hb trivial (hC w.heap.size p (cU M) _ w _ (rI hA hle) hH.down (by simp) rfl (Marks.nil _ _ _) (fun a' w' ⟨p',M',k1,k2,k3⟩=>?_)) rfl
 have main:LeavesInM Fence.wide 0 P fn a'.tmps (fG p M H w (c8 (bC l.bs j ((aw (l::H') 0 j).1,.dead)) 5 (.agg (.G [v0,.slc 1 (ao H' 0) 0 off sz len cap,v2]))) (bu H' 0 (.row (jn 1 q)))) a'.defers .returning w':=by
  obtain ⟨rs,h1,h2,_,h3⟩:=k3
  rw[h1]
  refine kN (p:=p) (M:=cU M) (H:=⟨false,[]⟩::H) (w:=w) (p':=p') (M':=M') (H':=l::H') (fun w2 hE=>?_) rs w' h2 (fun r hr=>⟨(h3 r hr).1,(h3 r hr).2.2⟩) k1
  obtain ⟨cv,r1,r2⟩:=mg k2 hE.rel hv
  have r2':ai p' M' (.agg (.G [v0,.slc 0 j ver off sz len cap,v2])) cv:=r2
  cases r2' with
  | agg hs h1c hvv =>
    rename_i cs
    have e0:=hvv 0 (by simp[Row.len])
    have e1:=hvv 1 (by simp[Row.len])
    have e2:=hvv 2 (by simp[Row.len])
    simp only[Row.get,List.getD_cons_zero,List.getD_cons_succ] at e0 e1 e2
    have e0:ai p' M' v0 _:=e0
    have e1:ai p' M' (.slc 0 j ver off sz len cap) _:=e1
    have e2:ai p' M' v2 _:=e2
    generalize hc1:cs.getD 1 undef=c1 at e1
    cases e1 with
    | slc hm h5 h6 h7 h8 =>
      rename_i b o t x cc
      have mv:=hE.rel.move (d:=1) hq hm hl0 hl1 (by
       cases H' with
       | nil=>exact absurd rfl hne
       | cons y r=>simp) (by omega)
      have hE2:=hE.trans mv
      have hk:bu (dQ (l::H') 0 j) 1 (.row (jn 1 q))=(⟨l.lock,(bC l.bs j ((aw (l::H') 0 j).1,.dead))⟩:bA)::bu H' 0 (.row (jn 1 q)):=rfl
      rw[hk] at hE2
      refine ⟨_,r1,_,rfl,⟨fun d i hl=>hE2.same (d+1) i (by omega) hl,fun d hl=>hE2.next (d+1) (by omega) hl⟩,_,_,hE2.pop,?_⟩
      have:=vX hE2.rel 5 (.agg (.G [v0,.slc 1 (ao H' 0) 0 off sz len cap,v2])) (.agg cs) (.agg (by simpa[Row.len] using hs) (fun j2 hj2=>h1c j2 (by simpa[Row.len] using hj2)) (fun j2 hj2=>by
       have h01:j2=0∨j2=1∨j2=2:=by simp[Row.len] at hj2;omega
       rcases h01 with rfl | rfl | rfl
       · show ai _ _ v0 _
         exact e0.mono (aD.le.refl _) mv.mu
       · show ai _ _ (.slc 1 (ao H' 0) 0 off sz len cap) _
         rw[hc1]
         refine .slc (b:=b) (o:=o) (t:=t) ?_ h5 h6 h7 h8
         show bm M' 1 (ao (l::H') 1) 0 (b,o,t) 1 (ao H' 0) 0=some (b,o,t)
         unfold bm
         exact if_pos ⟨rfl,rfl,rfl⟩
       · show ai _ _ v2 _
         exact e2.mono (aD.le.refl _) mv.mu))
      exact this
 rcases he with rfl | rfl
 · exact main
 · exact main
noncomputable def AE (P:Program) (KT:FuncId→Nat→Nat) (fu:Nat) (f:FuncId) (call:aB) (args:List AV) (H:aa):Option (AV×aa) :=
 match P.funcs[f]? with
 | none=>none
 | some fn => match fn.body with
   | none=>none
   | some c=>if Nat.ble args.length fn.ntmps then
     match c7 ⟨P,call,fu,f,fn.ntmps,KT f,none⟩ c (fe 0 args) (⟨false,[]⟩::H) with
     | some (e,fr,l::l1::H')=>(match e with
       | .normal | .ret=>match gA P fr (l::l1::H') fn.results.toList with
         | some [.agg (.G [v0,.slc 0 j ver off sz len cap,v2])]=>match cK (l::l1::H') 0 j ver with
           | some q=>if l.lock || l1.lock then none else some (c8 (bC l.bs j ((aw (l::l1::H') 0 j).1,.dead)) 5 (.agg (.G [v0,.slc 1 l1.bs.length 0 off sz len cap,v2])),bu (l1::H') 0 (.row (jn 1 q)))
           | none=>none
         | _=>none
       | _=>none)
     | _=>none
     else none
theorem Di {P:Program} (hN:dp P) (hD:gp P) {f:FuncId} (KT:FuncId→Nat→Nat) (fu:Nat) {call:aB} (hC:bN P call) {args:List AV} {H:aa} {v:AV} {H':aa} (h:AE P KT fu f call args H=some (v,H'))
 {p:aD} {M:Mu} {w:World} {cargs:Array Value} (hH:a7 p M H w) (hA:ey p M args cargs):(∃ fn,P.funcs[f]?=some fn∧fn.body.isNone=false)∧CallsIn Fence.wide 0 P f cargs w (fG p M H w v H'):=by
 unfold AE at h
 split at h
 · simp at h
 rename_i fn hf
 split at h
 · simp at h
 rename_i c hb
 split at h
 case isFalse=>simp at h
 rename_i hle
 split at h
 case h_2=>simp at h
 rename_i e fr l l1 H1 he
 rw[ef] at he
 have hcode:=cH (cx:=⟨P,call,fu,f,fn.ntmps,KT f,none⟩) dv.wide hN hC (more hN hD hC _ _ rfl rfl dv.wide) _ _ _ _ _ _ he
 have fin:(e=.normal∨e=.ret)→(match gA P fr (l::l1::H1) fn.results.toList with
  | some [.agg (.G [v0,.slc 0 j ver off sz len cap,v2])]=>match cK (l::l1::H1) 0 j ver with
    | some q=>if l.lock || l1.lock then none else some (c8 (bC l.bs j ((aw (l::l1::H1) 0 j).1,.dead)) 5 (.agg (.G [v0,.slc 1 l1.bs.length 0 off sz len cap,v2])),bu (l1::H1) 0 (.row (jn 1 q)))
    | none=>none
  | _=>none)=some (v,H')→(∃ fn,P.funcs[f]?=some fn∧fn.body.isNone=false)∧CallsIn Fence.wide 0 P f cargs w (fG p M H w v H'):=fun he h=>by
  split at h
  case h_2=>simp at h
  rename_i v0 j ver off sz len cap v2 hv
  split at h
  case h_2=>simp at h
  rename_i q hq
  split at h
  case isTrue=>simp at h
  rename_i hlk
  simp only[Bool.or_eq_true,not_or,Bool.not_eq_true] at hlk
  simp only[nP] at h
  obtain ⟨rfl,rfl⟩:=h
  exact ⟨⟨fn,hf,by rw[hb];rfl⟩,C8 hf hb (by simpa using hle) he hv hq hlk.1 hlk.2 (by simp) hcode hH hA⟩
 split at h
 · exact fin (.inl rfl) h
 · exact fin (.inr rfl) h
 · simp at h
noncomputable def A3 (P:Program) (KT:FuncId→Nat→Nat) (fu:Nat) (g:FuncId) (call:aB):aB:=fun tgt args H=>match tgt with
 | .fn f=>if Nat.beq f g then AE P KT fu g call args H else call (.fn f) args H
 | tgt=>call tgt args H
theorem DK {P:Program} (hN:dp P) (hD:gp P) (KT:FuncId→Nat→Nat) (fu:Nat) (g:FuncId) {call:aB} (hC:bN P call):bN P (A3 P KT fu g call):=by
 intro tgt args H v H' h hne p M w cargs hH hA
 cases tgt with
 | fn f =>
   unfold A3 at h
   dsimp only at h
   split at h
   · rename_i e
     have:=Nat.eq_of_beq_eq_true e
     subst this
     exact Di hN hD KT fu hC h hH hA
   · exact hC (.fn f) args H v H' h hne p M w cargs hH hA
 | round d i=>exact hC (.round d i) args H v H' h hne p M w cargs hH hA
 | mode=>exact hC .mode args H v H' h hne p M w cargs hH hA
end Go.Eng
end
section
namespace Go.Eng
open Go.ChangeShapes Go.RowKit

theorem ur {H:Type} {enc:TypeId×Value→H} {P:Program} {f:Func} {s:ChangeSpec} {apart fresh handsOn again:Bool} {W W':World} {args:Array Value} {v:Value} {ds gs:List (DataW H)} {before pa pv:List MemPlace}
 (hW:DataW.Whole enc P f.params.toList s.vars apart W args.toList ds gs before) (hb:Below W.heap.size W W')
 (hres:∀ (b:Nat) (sp:Nat→Bool) (hd:Bool),DataW.TrodAll enc P W' b sp hd f.resultTypes.toList (v.resultList f.resultTypes.size) (s.fn H (ds++gs)).results [])
 (hargs:∀ sp:Nat→Bool,(∀ p ∈ before,sp p.block=true)→DataW.TrodAll enc P W' 0 sp true f.params.toList args.toList (s.fn H (ds++gs)).args pa)
 (hvars:∀ sp:Nat→Bool,(∀ p ∈ before,sp p.block=true)→DataW.TrodVars enc P W' sp s.vars (s.fn H (ds++gs)).vars pv) (hps:before=pa++pv)
 (hok:∀ (j:Nat) (t:TypeId) (r:Value),f.resultTypes[j]?=some t→(v.resultList f.resultTypes.size)[j]?=some r→Value.okWide P W' .any 0 t r) :
 s.post enc P f apart fresh handsOn again W args v W':=by
 have old:∀ p ∈ before,p.block<W.heap.size:=fun p hp=>hW.lt p hp
 have hz:=hW
 obtain ⟨_,_,_,_,_,hz,hn⟩:=hz
 refine ⟨ds,gs,before,[],pa,pv,hW,hres _ _ _,hargs _ (fun p hp=>by simpa using old p hp),hvars _ (fun p hp=>by simpa using old p hp),hb.frame _,fun _=>⟨hok,_,_,[]++pa++pv,⟨[]++pa,pv,trodAll_append (hargs _ (fun _ _=>rfl)) (hres _ _ _),hvars _ (fun _ _=>rfl),rfl,?_,?_⟩,?_⟩⟩
 · intro b off hp
   have hp':MemPlace.cell b off ∈ before:=by rw[hps];simpa using hp
   rw[hb.frozen (old _ hp')]
   exact hz b off hp'
 · intro ha
   have:=hn ha
   rw[hps] at this
   simpa using this
 · intro p hp _
   rw[hps]
   simpa using hp

end Go.Eng
end
section
namespace Go.Eng
open Go.ChangeShapes

open Classical in
noncomputable def Pw (w:World):aD:=if h:ly w then ⟨fun b o=>w.cell? ⟨b,o,none⟩,h⟩ else aD.z
theorem JQ {w:World} (h:ly w):Pw w=⟨fun b o=>w.cell? ⟨b,o,none⟩,h⟩:=dif_pos h
theorem It {w:World} (h:ly w) (b o:Nat):Pw w b o=w.cell? ⟨b,o,none⟩:=by
 rw[JQ h]
theorem a7.all {w:World} (hg:ly w):a7 (Pw w) Mu.no [⟨true,[]⟩] w where
 pers:=fun b o v h=>by rw[It hg] at h;exact h
 live:=fun d i v B hg hB=>by
  cases d<;>simp[aw,au] at hg<;>exact absurd hg.2.symm hB
 apart:=fun d i v B d' i' v' B' b o t o' t' hg hB hg' hB' hm hm'=>by cases hm
 dom:=fun d i v t hm=>by cases hm

theorem CP {P:Program} {call:aB} (hC:bN P call) {f:FuncId} {args:List AV} {x:Bool} {H':aa} (h:call (.fn f) args [⟨true,[]⟩]=some (.bool x,H')) {cargs:Array Value} {w:World} (hg:ly w) (hA:ey (Pw w) Mu.no args cargs) :
 Calls P f cargs w (fun e w'=>e=.returned (.bool x)∧Go.RowKit.Below w.heap.size w w'):=by
 have:=(hC (.fn f) args _ (.bool x) H' h (by simp) _ _ w cargs (a7.all hg) hA).2
 refine (callsIn_wide.1 this).mono ?_
 rintro e w' ⟨cv,rfl,_,p',M',hE,hv⟩
 cases hv
 exact ⟨rfl,(hE.stay.weaken (fun b _ _ d i v B _ _ _ o t hm=>by cases hm)).below⟩

def jR (k:IntKind) (P:Program) (t:TypeId) (n:Nat):Prop:=∀ (H:Type) (enc:TypeId×Value→H) (w:World) (base:Nat) (sp:Nat→Bool) (held:Bool) (fuel:Nat) (cs:List Value) (x:DataW H×List MemPlace),
 DataW.trod enc P w base sp held fuel t cs=some x→cs.length=n∧∀ j,j<n→∃ z:Int,cs[j]?=some (.int k z)∧(Lit.int k z).wf=true
abbrev uw (P:Program) (t:TypeId) (n:Nat):Prop:=jR .i64 P t n
theorem se {P:Program} {t:TypeId} {k:IntKind} (ht:P.underlying t=some (.int k)):jR k P t 1:=by
 intro H enc w base sp held fuel cs x h
 obtain ⟨n,rfl,_,hw⟩:=DataW.trod_int ht h
 refine ⟨rfl,fun j hj=>?_⟩
 obtain rfl:j=0:=by omega
 exact ⟨n,rfl,hw⟩
theorem vU {P:Program} {k:IntKind} {t:TypeId} {f0 f1:Field} {n0 n1:Nat} (ht:P.underlying t=some (.struct #[f0,f1])) (h0:jR k P f0.type n0) (h1:jR k P f1.type n1) (o0:f0.offset=0) (o1:f1.offset=n0) (c0:P.cellsOf f0.type=n0) (c1:P.cellsOf f1.type=n1) (c:P.cellsOf t=n0+n1):jR k P t (n0+n1):=by
 intro H enc w base sp held fuel cs x h
 obtain ⟨y0,y1,n,_,hl,g0,g1⟩:=trod_struct2 ht h
 obtain ⟨k0,k1⟩:=h0 _ _ _ _ _ _ _ _ _ g0
 obtain ⟨m0,m1⟩:=h1 _ _ _ _ _ _ _ _ _ g1
 refine ⟨by rw[hl,c],fun j hj=>?_⟩
 by_cases hlt:j<n0
 · obtain ⟨z,hz,hw⟩:=k1 j hlt
   refine ⟨z,?_,hw⟩
   rw[o0,c0] at hz
   simpa[List.getElem?_take,hlt] using hz
 · obtain ⟨z,hz,hw⟩:=m1 (j-n0) (by omega)
   refine ⟨z,?_,hw⟩
   rw[o1,c1] at hz
   have hlt2:j-n0<n1:=by omega
   simpa[List.getElem?_take,hlt2,List.getElem?_drop,show n0+(j-n0)=j by omega] using hz

theorem rS {w:World} {a:Addr}:∀ (l:List Nat) (cs:List Value),(l.mapM fun i=>w.cell? (a.add i))=some cs→∀ (j i:Nat),l[j]?=some i→∃ v,cs[j]?=some v∧w.cell? (a.add i)=some v
 | [],cs,h,j,i,hi=>by simp at hi
 | x::l,cs,h,j,i,hi=>by
   simp only[List.mapM_cons,Option.bind_eq_bind,Option.bind_eq_some_iff,Option.pure_def,Option.some.injEq] at h
   obtain ⟨v,hv,r,hr,rfl⟩:=h
   cases j with
   | zero=>simp at hi;subst hi;exact ⟨v,rfl,hv⟩
   | succ j=>exact rS l r hr j i (by simpa using hi)

theorem AQ {P:Program} {k:IntKind} {t e:TypeId} {n:Nat} (ht:P.underlying t=some (.slice e)) (he:jR k P e n) (hn:0<n) (hc:P.cellsOf e=n) {H:Type} {enc:TypeId×Value→H} {w:World} {base:Nat} {sp:Nat→Bool} {held:Bool} {fuel:Nat} {v:Value} {x:DataW H×List MemPlace}
 (hg:ly w) (hspot:∀ a l c,v=.slice (some a) l c→a.spot=none) (h:DataW.trod enc P w base sp held fuel t [v]=some x) :
 (v=.slice none 0 0)∨∃ (zs:Nat→Int) (len:Nat),ai (Pw w) Mu.no (.slcT none (.F (fun j=>.int k (zs j)) (len*n)) n len false) v∧∀ j,j<len*n→(Lit.int k (zs j)).wf=true:=by
 rcases DataW.trod_slice ht h with ⟨h0,_⟩ | ⟨a,len,cap,elems,rest,m,_,hcs,_,_,hl,_,hlen,hel,_,_⟩
 · left;simpa using h0
 · right
   simp only[List.cons.injEq,and_true] at hcs
   have hsp:=hspot a len cap hcs
   have cell:∀ j,j<len*n→∃ z:Int,w.cell? ⟨a.block,a.off+j,none⟩=some (.int k z)∧(Lit.int k z).wf=true:=by
    intro j hj
    have hi:j / n<len:=by rw[Nat.div_lt_iff_lt_mul hn];exact hj
    have:=hel (j / n) hi
    have hex:elems[j / n]?≠none:=by simp;omega
    rw[← this] at hex
    cases hcl:w.cells? base (a.add (j / n*P.cellsOf e)) (P.cellsOf e) with
    | none=>rw[hcl] at hex;simp at hex
    | some cs =>
      rw[hcl] at hex
      cases hy:DataW.trod enc P w base sp held m e cs with
      | none=>simp[hy] at hex
      | some y =>
        obtain ⟨k0,k1⟩:=he _ _ _ _ _ _ _ _ _ hy
        obtain ⟨z,hz,hw⟩:=k1 (j % n) (Nat.mod_lt _ hn)
        unfold World.cells? at hcl
        split at hcl
        · obtain ⟨u,hu,hcu⟩:=rS _ _ hcl (j % n) (j % n) (by rw[hc];simp[Nat.mod_lt _ hn])
          rw[hz] at hu
          have hu:=Option.some.inj hu
          subst hu
          refine ⟨z,?_,hw⟩
          rw[hc] at hcu
          have e1:(a.add (j / n*n)).add (j % n)=⟨a.block,a.off+j,none⟩:=by
           have hd:=Nat.div_add_mod j n
           have hd2:j / n*n+j % n=j:=by rw[Nat.mul_comm];exact hd
           cases a
           simp only at hsp
           subst hsp
           have ad:∀ (b o i:Nat),Addr.add ⟨b,o,none⟩ i=⟨b,o+i,none⟩:=fun b o i=>by
            unfold Addr.add
            split
            · rename_i h0;subst h0;rfl
            · rfl
           rw[ad,ad,Nat.add_assoc,hd2]
          rw[← e1];exact hcu
        · simp at hcl
   obtain ⟨zs,hzs⟩:∃ zs:Nat→Int,∀ j,j<len*n→w.cell? ⟨a.block,a.off+j,none⟩=some (.int k (zs j))∧(Lit.int k (zs j)).wf=true :=
    ⟨fun j=>if h:j<len*n then Classical.choose (cell j h) else 0,fun j hj=>by
      have:=Classical.choose_spec (cell j hj)
      simp only[dif_pos hj]
      exact this⟩
   refine ⟨zs,len,?_,fun j hj=>(hzs j hj).2⟩
   rw[hcs]
   obtain ⟨b,o,sp'⟩:=a
   simp only at hsp
   subst hsp
   exact .slcT (o:=o) (fun j=>.int k (zs j)) (fun j hj=>by rw[It hg];exact (hzs j hj).1) (fun j hj=>rfl) (fun j hj=>.int _ _) hl (fun h=>by cases h) (.inr rfl)

end Go.Eng
end
section
namespace Go.Eng
noncomputable def Nj (call:aB) (f:FuncId) (args:List AV) (H:aa):Option (AV×aa) :=
 match args with
 | [.int k1 a1,.int k2 a2,.slc d i ver 0 1 len cap]=>match cK H d i ver with
   | some (.I .i64 l)=>if l.length=len then (match call (.fn f) [.int k1 a1,.int k2 a2,.slcT none (.M [.arr .i64 (aS l) len]) 1 len false] [⟨true,[]⟩] with
     | some (v,_)=>some (Kj v,H)
     | none=>none) else none
   | _=>none
 | _=>none
theorem La {P:Program} {call:aB} (hC:bN P call) {f:FuncId} {args:List AV} {H:aa} {v:AV} {H':aa} (h:Nj call f args H=some (v,H')) {p:aD} {M:Mu} {w:World} {cargs:Array Value} (hH:a7 p M H w) (hA:ey p M args cargs) :
 (∃ fn,P.funcs[f]?=some fn∧fn.body.isNone=false)∧CallsIn Fence.wide 0 P f cargs w (fG p M H w v H'):=by
 unfold Nj at h
 split at h
 case h_2=>simp at h
 rename_i k1 a1 k2 a2 d i ver len cap
 split at h
 case h_2=>simp at h
 rename_i l hr
 split at h
 case isFalse=>simp at h
 rename_i hlen
 split at h
 case h_2=>simp at h
 rename_i u H2 hcall
 simp only[nP] at h
 obtain ⟨rfl,rfl⟩:=h
 have hg:=dw hr
 obtain ⟨b,o,t,hm,hb,hno⟩:=hH.live d i ver (.row (.I .i64 l)) hg (by simp)
 obtain ⟨vs,v1,v2⟩:=mj hb
 have hle:aD.le p (lU p b o (Row.I .i64 l).len vs):=by
  intro b' o' v hv
  rw[fV hno,if_neg]
  · exact hv
  · rintro ⟨rfl,_⟩
    rw[hno] at hv;cases hv
 have hH0:a7 (lU p b o (Row.I .i64 l).len vs) Mu.no [⟨true,[]⟩] w:=⟨fun b' o' v hp=>by
  rw[fV hno] at hp
  split at hp
  · rename_i he
    obtain ⟨rfl,h1,h2⟩:=he
    rw[← hp]
    have:=v2 (o'-o) (by omega)
    rw[show o+(o'-o)=o' by omega] at this
    exact this
  · exact hH.pers _ _ _ hp,(fun d i v B hg hB=>by
  cases d<;>simp[aw,au] at hg<;>exact absurd hg.2.symm hB),(fun d i v B d' i' v' B' b o t o' t' hg hB hg' hB' hm hm'=>by cases hm),(fun d i v t hm=>by cases hm)⟩
 have hrow:(Row.M [.arr .i64 (aS l) len]).len=(Row.I .i64 l).len:=by
  show len+0=l.length
  omega
 have hA0:ey (lU p b o (Row.I .i64 l).len vs) Mu.no [.int k1 a1,.int k2 a2,.slcT none (.M [.arr .i64 (aS l) len]) 1 len false] cargs:=⟨hA.1,fun j hj=>by
  have h3:j=0∨j=1∨j=2:=by simp at hj;omega
  rcases h3 with rfl | rfl | rfl
  · have h0:ai p M (.int k1 a1) (cargs.getD 0 undef):=hA.2 0 (by simp)
    exact h0.bj _ _
  · have h0:ai p M (.int k2 a2) (cargs.getD 1 undef):=hA.2 1 (by simp)
    exact h0.bj _ _
  · have h0:ai p M (.slc d i ver 0 1 len cap) (cargs.getD 2 undef):=hA.2 2 (by simp)
    show ai _ _ (.slcT none (.M [.arr .i64 (aS l) len]) 1 len false) (cargs.getD 2 undef)
    generalize cargs.getD 2 undef=cv at h0
    cases h0 with
    | slc h0 h5 h6 h7 h8 =>
      rename_i b2 o2 t2 x cc
      rw[hm] at h0
      simp only[nP] at h0
      obtain ⟨rfl,rfl,rfl⟩:=h0
      refine .slcT (o:=o) vs (fun j hj=>?_) (fun j hj=>(v1 j (by rw[← hrow];exact hj)).2) (fun j hj=>?_) h5 (fun e=>by cases e) (by rcases h8 with h8 | h8;exact .inl h8;exact .inr (by omega))
      · rw[hrow] at hj
        rw[fV hno,if_pos ⟨rfl,by omega,by omega⟩]
        congr 2;omega
      · rw[hrow] at hj
        have hj':j<l.length:=hj
        have h9:=(v1 j hj).1
        have e:(Row.M [.arr .i64 (aS l) len]).get j=.int .i64 (l.getD j 0):=by
         show (if j<len then AV.int .i64 (aS l j) else _)=_
         rw[if_pos (by omega),gK]
        rw[e]
        have h9:ai p _ (.int .i64 (l.getD j 0)) (vs j):=h9
        exact h9.bj _ _⟩
 obtain ⟨h1,h2⟩:=hC (.fn f) _ _ u H2 hcall (by simp) _ Mu.no w cargs hH0 hA0
 refine ⟨h1,h2.mono ?_⟩
 rintro en w' ⟨cv,rfl,st,p',M',hE,hv⟩
 have all:∀ b,Go.Eng.bk Mu.no [⟨true,[]⟩] b:=fun b d i u B _ _ _ o t hm=>by cases hm
 refine ⟨cv,rfl,Still.refl H,p,M,{ cg.refl hH with rel:=⟨fun b' o' v hp=>hE.rel.pers b' o' v (hE.pst _ _ _ (hle _ _ _ hp)),?_,hH.apart,hH.dom⟩,stay:=hE.stay.weaken (fun b _ _=>all b) },BA hv⟩
 intro d i u B hg hB
 obtain ⟨b,o,t,k1,k2,k3⟩:=hH.live d i u B hg hB
 exact ⟨b,o,t,k1,k2.mono (aD.le.refl _) (Mu.le.refl _) (hE.stay.block b (k2.lt hB) (all b)),k3⟩
end Go.Eng
end
section
namespace Go.Eng.Gall
def mk (p:Nat→Bool):Nat→Nat
 | 0=>0
 | j+1=>if p j=true then mk p j+2 ^ j else mk p j
theorem im (p:Nat→Bool):∀ j c,(mk p j).testBit c=(decide (c<j) && p c)
 | 0,c=>by simp[mk]
 | j + 1,c=>by
   have ih:=im p j
   unfold mk
   by_cases hp:p j=true
   · rw[if_pos hp,A0 (by rw[ih];simp),ih]
     by_cases e:c=j
     · subst e;simp[hp]
     · rw[decide_eq_false e,Bool.false_or]
       by_cases h:c<j
       · rw[decide_eq_true h,decide_eq_true (by omega)]
       · rw[decide_eq_false h,decide_eq_false (by omega)]
   · rw[if_neg hp,ih]
     by_cases e:c=j
     · subst e
       have:p c=false:=by simpa using hp
       rw[this];simp
     · by_cases h:c<j
       · rw[decide_eq_true h,decide_eq_true (by omega)]
       · rw[decide_eq_false h,decide_eq_false (by omega)]
theorem MT (p:Nat→Bool) (j:Nat):mk p j<2 ^ j:=by
 apply Nat.lt_pow_two_of_testBit
 intro i hi
 rw[im,decide_eq_false (by omega)];rfl
theorem mk_zero {p:Nat→Bool} {j:Nat}:mk p j=0↔∀ c,c<j→p c=false:=by
 constructor
 · intro h c hc
   have:=im p j c
   rw[h,decide_eq_true hc] at this
   simpa using this.symm
 · intro h
   apply Nat.eq_of_testBit_eq
   intro c
   rw[im,Nat.zero_testBit]
   by_cases hc:c<j
   · rw[h c hc];simp
   · rw[decide_eq_false hc];rfl
theorem KP (j:Nat):mk (fun c=>decide (c<j)) j=2 ^ j-1:=by
 apply Nat.eq_of_testBit_eq
 intro c
 rw[im,Nat.testBit_two_pow_sub_one];simp
section
variable (n:Nat) (b:Nat→Nat)
def bD:Nat→Nat→Bool
 | 0,c=>decide (c<n)
 | t+1,c=>decide (c<n) && (List.range n).any fun a=>bD t a && (b c).testBit a
def fB:Bool:=(List.range n).any (bD n b n)
variable {n b}
theorem mc {t c:Nat} (h:bD n b t c=true):c<n:=by
 cases t with
 | zero=>simpa[bD] using h
 | succ t=>simp only[bD,Bool.and_eq_true,decide_eq_true_eq] at h;exact h.1
theorem ga {t c:Nat}:bD n b (t+1) c=true↔c<n∧∃ a,bD n b t a=true∧(b c).testBit a=true:=by
 simp only[bD,Bool.and_eq_true,decide_eq_true_eq,List.any_eq_true,List.mem_range]
 constructor
 · rintro ⟨h,a,_,h2⟩;exact ⟨h,a,h2⟩
 · rintro ⟨h,a,h2,h3⟩;exact ⟨h,a,mc h2,h2,h3⟩
theorem wm {t:Nat}:∀ {c},bD n b (t+1) c=true→bD n b t c=true:=by
 induction t with
 | zero=>intro c h;simpa[bD] using (ga.1 h).1
 | succ t ih =>
   intro c h
   obtain ⟨h1,a,h2,h3⟩:=ga.1 h
   exact ga.2 ⟨h1,a,ih h2,h3⟩
theorem sR {t:Nat} (h:∀ c,bD n b t c=false):∀ s c,bD n b (t+s) c=false
 | 0,c=>h c
 | s+1,c=>by
   cases e:bD n b (t+(s+1)) c with
   | false=>rfl
   | true=>have:=wm (t:=t+s) e;rw[sR h s c] at this;cases this
theorem Hv {t:Nat} (h:∀ c,bD n b t c=true→bD n b (t+1) c=true):∀ s c,bD n b t c=true→bD n b (t+s) c=true:=by
 have h1:∀ s,∀ c,bD n b (t+s) c=true→bD n b (t+s+1) c=true:=by
  intro s
  induction s with
  | zero=>exact h
  | succ s ih =>
    intro c hc
    obtain ⟨a1,a,a2,a3⟩:=ga.1 hc
    exact ga.2 ⟨a1,a,ih a a2,a3⟩
 intro s
 induction s with
 | zero=>exact fun c hc=>hc
 | succ s ih=>exact fun c hc=>h1 s c (ih c hc)
theorem sc (p:Nat→Prop):∀ k,(∀ t,t<k→¬ p t)∨∃ T,T<k∧p T∧∀ t,t<T→¬ p t
 | 0=>.inl fun t h=>by omega
 | k + 1=>by
   rcases sc p k with h | ⟨T,h1,h2⟩
   · by_cases hk:p k
     · exact .inr ⟨k,by omega,hk,h⟩
     · exact .inl fun t ht=>by
        by_cases e:t=k
        · subst e;exact hk
        · exact h t (by omega)
   · exact .inr ⟨T,by omega,h2⟩
theorem J2:∃ T,T≤n∧(∀ t,t<T→(∃ c,bD n b t c=true)∧∃ c,bD n b t c=true∧bD n b (t+1) c=false) ∧
 (((∀ c,bD n b T c=false)∧fB n b=false)∨((∃ c,bD n b T c=true)∧(∀ c,bD n b T c=true→bD n b (T+1) c=true)∧fB n b=true)):=by
 have hb:fB n b=true↔∃ c,bD n b n c=true:=by
  unfold fB
  rw[List.any_eq_true]
  constructor
  · rintro ⟨c,_,h⟩;exact ⟨c,h⟩
  · rintro ⟨c,h⟩;exact ⟨c,List.mem_range.2 (mc h),h⟩
 have fin:∀ T,T≤n→((∀ c,bD n b T c=false)∨(∀ c,bD n b T c=true→bD n b (T+1) c=true)) →
  (((∀ c,bD n b T c=false)∧fB n b=false)∨((∃ c,bD n b T c=true)∧(∀ c,bD n b T c=true→bD n b (T+1) c=true)∧fB n b=true)):=by
  intro T hT h
  by_cases he:∀ c,bD n b T c=false
  · refine .inl ⟨he,?_⟩
    cases e:fB n b with
    | false=>rfl
    | true =>
      obtain ⟨c,hc⟩:=hb.1 e
      have:=sR he (n-T) c
      rw[show T+(n-T)=n by omega,hc] at this;cases this
  · have hs:=h.resolve_left he
    have hex:∃ c,bD n b T c=true:=by
     apply Classical.byContradiction
     intro hn
     exact he fun c=>by
      cases e:bD n b T c with
      | false=>rfl
      | true=>exact absurd ⟨c,e⟩ hn
    obtain ⟨c,hc⟩:=hex
    refine .inr ⟨⟨c,hc⟩,hs,hb.2 ⟨c,?_⟩⟩
    have:=Hv hs (n-T) c hc
    rwa [show T+(n-T)=n by omega] at this
 rcases sc (fun t=>(∀ c,bD n b t c=false)∨(∀ c,bD n b t c=true→bD n b (t+1) c=true)) (n+1) with h | ⟨T,h1,h2,h3⟩
 · exfalso
   have len:∀ t,t≤n→((List.range n).filter (bD n b t)).length≤n-t:=by
    intro t
    induction t with
    | zero=>intro _;exact Nat.le_trans (List.length_filter_le _ _) (by rw[List.length_range];omega)
    | succ t ih =>
      intro ht
      have hi:=ih (by omega)
      have hn:=h t (by omega)
      rw[not_or] at hn
      obtain ⟨c,hc⟩:=Classical.not_forall.1 hn.2
      rw[Classical.not_imp] at hc
      have:=fY (L:=c::(List.range n).filter (bD n b (t+1))) (M:=(List.range n).filter (bD n b t)) (List.nodup_cons.2 ⟨fun hm=>hc.2 (List.mem_filter.1 hm).2,List.Pairwise.filter _ List.nodup_range⟩) (fun x hx=>by
       rcases List.mem_cons.1 hx with rfl | hx
       · exact List.mem_filter.2 ⟨List.mem_range.2 (mc hc.1),hc.1⟩
       · obtain ⟨x1,x2⟩:=List.mem_filter.1 hx
         exact List.mem_filter.2 ⟨x1,wm x2⟩)
      rw[List.length_cons] at this
      omega
   have h0:=len n (Nat.le_refl n)
   refine h n (by omega) (.inl fun c=>?_)
   cases e:bD n b n c with
   | false=>rfl
   | true =>
     have hm:c ∈ (List.range n).filter (bD n b n):=List.mem_filter.2 ⟨List.mem_range.2 (mc e),e⟩
     have:=List.length_pos_of_mem hm
     omega
 · refine ⟨T,by omega,fun t ht=>?_,fin T (by omega) h2⟩
   have hn:=h3 t ht
   rw[not_or] at hn
   obtain ⟨c,hc⟩:=Classical.not_forall.1 hn.2
   rw[Classical.not_imp] at hc
   exact ⟨⟨c,hc.1⟩,c,hc.1,by simpa using hc.2⟩
theorem and_zero {x y:Nat}:x &&& y=0↔∀ a,x.testBit a=true→y.testBit a=false:=by
 constructor
 · intro h a ha
   have:=congrArg (fun z=>z.testBit a) h
   simpa[Nat.testBit_and,ha] using this
 · intro h
   apply Nat.eq_of_testBit_eq
   intro a
   rw[Nat.testBit_and,Nat.zero_testBit]
   cases e:x.testBit a with
   | false=>rfl
   | true=>rw[h a e];rfl
theorem Hu {t c:Nat} (hc:c<n):bD n b (t+1) c=false↔b c &&& mk (bD n b t) n=0:=by
 rw[and_zero]
 constructor
 · intro h a ha
   rw[im]
   cases e:bD n b t a with
   | false=>simp
   | true=>rw[ga.2 ⟨hc,a,e,ha⟩] at h;cases h
 · intro h
   cases e:bD n b (t+1) c with
   | false=>rfl
   | true =>
     obtain ⟨_,a,a1,a2⟩:=ga.1 e
     have:=h a a2
     rw[im,a1,decide_eq_true (mc a1)] at this;cases this
end
end Go.Eng.Gall
end
section
namespace Go.Eng.Gall
def AA (i:Int) (f:Nat→Int) (p:Nat→Bool):Nat→Int
 | 0=>i
 | k+1=>if p k=true then max (AA i f p k) (f k) else AA i f p k
theorem wi (i:Int) (f:Nat→Int) (p:Nat→Bool):∀ k,i≤AA i f p k
 | 0=>Int.le_refl _
 | k+1=>by
   have:=wi i f p k
   unfold AA
   split<;>omega
theorem sL (i:Int) (f:Nat→Int) (p:Nat→Bool):∀ k a,a<k→p a=true→f a≤AA i f p k
 | 0,a,h,_=>by omega
 | k + 1,a,h,hp=>by
   by_cases e:a=k
   · subst e
     unfold AA
     rw[if_pos hp];omega
   · have:=sL i f p k a (by omega) hp
     unfold AA
     split<;>omega
theorem jd (i:Int) (f:Nat→Int) (p:Nat→Bool):∀ k,AA i f p k=i∨∃ a,a<k∧p a=true∧AA i f p k=f a
 | 0=>.inl rfl
 | k + 1=>by
   have ih:=jd i f p k
   unfold AA
   by_cases hp:p k=true
   · rw[if_pos hp]
     by_cases h:AA i f p k≤f k
     · exact .inr ⟨k,by omega,hp,by omega⟩
     · rw[show max (AA i f p k) (f k)=AA i f p k by omega]
       rcases ih with h2 | ⟨a,h1,h2,h3⟩
       · exact .inl h2
       · exact .inr ⟨a,by omega,h2,h3⟩
   · rw[if_neg hp]
     rcases ih with h2 | ⟨a,h1,h2,h3⟩
     · exact .inl h2
     · exact .inr ⟨a,by omega,h2,h3⟩
section
variable (n:Nat) (b:Nat→Nat) (w:Nat→Int)
def fj:Nat→Nat→Int
 | 0,c=>w (2*c)
 | t+1,c=>AA (fj t c) (fun a=>fj t a+1) (fun a=>(b c).testBit a) n
def fh:Nat→Nat→Int
 | 0,a=>-w (2*a+1)
 | t+1,a=>AA (fh t a) (fun c=>fh t c+1) (fun c=>(b c).testBit a) n
def hJ (i:Nat):Int:=if i<2*n then (if i % 2=0 then fj n b w n (i / 2) else -fh n b w n (i / 2)) else w i
variable {n b w}
theorem BU (t c:Nat):fj n b w t c≤fj n b w (t+1) c:=wi _ _ _ _
theorem BH (t c:Nat):fh n b w t c≤fh n b w (t+1) c:=wi _ _ _ _
theorem BV:∀ t c,c<n→fj n b w t c<fj n b w (t+1) c→bD n b (t+1) c=true
 | 0,c,hc,h=>by
   rcases jd (fj n b w 0 c) (fun a=>fj n b w 0 a+1) (fun a=>(b c).testBit a) n with e | ⟨a,h1,h2,_⟩
   · have:fj n b w (0+1) c=fj n b w 0 c:=e
     omega
   · exact ga.2 ⟨hc,a,by simpa[bD] using h1,h2⟩
 | t + 1,c,hc,h=>by
   rcases jd (fj n b w (t+1) c) (fun a=>fj n b w (t+1) a+1) (fun a=>(b c).testBit a) n with e | ⟨a,h1,h2,h3⟩
   · have:fj n b w (t+1+1) c=fj n b w (t+1) c:=e
     omega
   · have e:fj n b w (t+1+1) c=fj n b w (t+1) a+1:=h3
     have h4:fj n b w t a+1≤fj n b w (t+1) c:=sL (fj n b w t c) (fun a=>fj n b w t a+1) (fun a=>(b c).testBit a) n a h1 h2
     exact ga.2 ⟨hc,a,BV t a h1 (by omega),h2⟩
theorem BI:∀ t a,a<n→fh n b w t a<fh n b w (t+1) a→∃ c,∀ s,bD n b s a=true→bD n b (s+(t+1)) c=true
 | 0,a,ha,h=>by
   rcases jd (fh n b w 0 a) (fun c=>fh n b w 0 c+1) (fun c=>(b c).testBit a) n with e | ⟨c,h1,h2,_⟩
   · have:fh n b w (0+1) a=fh n b w 0 a:=e
     omega
   · exact ⟨c,fun s hs=>ga.2 ⟨h1,a,hs,h2⟩⟩
 | t + 1,a,ha,h=>by
   rcases jd (fh n b w (t+1) a) (fun c=>fh n b w (t+1) c+1) (fun c=>(b c).testBit a) n with e | ⟨c,h1,h2,h3⟩
   · have:fh n b w (t+1+1) a=fh n b w (t+1) a:=e
     omega
   · have e:fh n b w (t+1+1) a=fh n b w (t+1) c+1:=h3
     have h4:fh n b w t c+1≤fh n b w (t+1) a:=sL (fh n b w t a) (fun c=>fh n b w t c+1) (fun c=>(b c).testBit a) n c h1 h2
     obtain ⟨d,hd⟩:=BI t c h1 (by omega)
     refine ⟨d,fun s hs=>?_⟩
     have:=hd (s+1) (ga.2 ⟨h1,a,hs,h2⟩)
     rwa [show s+1+(t+1)=s+(t+1+1) by omega] at this
theorem IA (h:fB n b=false) (s c:Nat):bD n b (n+s) c=false:=by
 refine sR (fun c=>?_) s c
 cases e:bD n b n c with
 | false=>rfl
 | true =>
   have:fB n b=true:=by unfold fB;rw[List.any_eq_true];exact ⟨c,List.mem_range.2 (mc e),e⟩
   rw[h] at this;cases this
theorem KI (h:fB n b=false) (s c:Nat) (hc:c<n):fj n b w (n+s) c=fj n b w n c:=by
 induction s with
 | zero=>rfl
 | succ s ih =>
   have h1:fj n b w (n+s) c≤fj n b w (n+(s+1)) c:=BU (n:=n) (b:=b) (w:=w) (n+s) c
   apply Classical.byContradiction
   intro hne
   have h2:fj n b w (n+s) c<fj n b w (n+s+1) c:=by
    have:fj n b w (n+s) c<fj n b w (n+(s+1)) c:=by omega
    exact this
   have h3:bD n b (n+(s+1)) c=true:=BV (n+s) c hc h2
   rw[IA h] at h3
   cases h3
theorem Kv (h:fB n b=false) (s c:Nat) (hc:c<n):fh n b w (n+s) c=fh n b w n c:=by
 induction s with
 | zero=>rfl
 | succ s ih =>
   have h1:fh n b w (n+s) c≤fh n b w (n+(s+1)) c:=BH (n:=n) (b:=b) (w:=w) (n+s) c
   apply Classical.byContradiction
   intro hne
   have h2:fh n b w (n+s) c<fh n b w (n+s+1) c:=by
    have:fh n b w (n+s) c<fh n b w (n+(s+1)) c:=by omega
    exact this
   obtain ⟨d,hd⟩:=BI (n:=n) (b:=b) (w:=w) (n+s) c hc h2
   have:=hd 0 (by simpa[bD] using hc)
   rw[show 0+(n+s+1)=n+(s+1) by omega,IA h] at this
   cases this
theorem EY (h:fB n b=false) {a c:Nat} (ha:a<n) (hc:c<n) (hp:(b c).testBit a=true):fj n b w n a+1≤fj n b w n c:=by
 rw[← KI h 1 c hc]
 exact sL (fj n b w n c) (fun a=>fj n b w n a+1) (fun a=>(b c).testBit a) n a ha hp
theorem IH (h:fB n b=false) {a c:Nat} (ha:a<n) (hc:c<n) (hp:(b c).testBit a=true):fh n b w n c+1≤fh n b w n a:=by
 rw[← Kv h 1 a ha]
 exact sL (fh n b w n a) (fun c=>fh n b w n c+1) (fun c=>(b c).testBit a) n c hc hp
def DQ (r:Nat→Int) (i:Nat) (x:Int):Nat→Int:=fun j=>if j=i then x else r j
def AU (r:Nat→Int) (a c:Nat):Nat→Int:=DQ (DQ r (2*c) (max (r (2*c)) (r (2*a)+1))) (2*a+1) (min (DQ r (2*c) (max (r (2*c)) (r (2*a)+1)) (2*a+1)) (DQ r (2*c) (max (r (2*c)) (r (2*a)+1)) (2*c+1)-1))
theorem AX (r:Nat→Int) (a c d:Nat):AU r a c (2*d)=if d=c then max (r (2*c)) (r (2*a)+1) else r (2*d):=by
 unfold AU DQ
 rw[if_neg (by omega)]
 by_cases e:d=c
 · rw[if_pos (by omega),if_pos e]
 · rw[if_neg (by omega),if_neg e]
theorem AW (r:Nat→Int) (a c d:Nat):AU r a c (2*d+1)=if d=a then min (r (2*a+1)) (r (2*c+1)-1) else r (2*d+1):=by
 unfold AU DQ
 by_cases e:d=a
 · subst e
   rw[if_pos rfl,if_pos rfl,if_neg (by omega),if_neg (by omega)]
 · rw[if_neg (by omega),if_neg e,if_neg (by omega)]
theorem Ib (r:Nat→Int) {a c i n:Nat} (ha:a<n) (hc:c<n) (hi:2*n≤i):AU r a c i=r i:=by
 unfold AU DQ
 rw[if_neg (by omega),if_neg (by omega)]
def nR (r:Nat→Int):List (Nat×Nat)→Nat→Int
 | []=>r
 | p::l=>nR (AU r p.1 p.2) l
theorem Cn (r:Nat→Int) (l m:List (Nat×Nat)):nR r (l++m)=nR (nR r l) m:=by
 induction l generalizing r with
 | nil=>rfl
 | cons p l ih=>exact ih _
structure Bd (n:Nat) (b:Nat→Nat) (w:Nat→Int) (t:Nat) (r:Nat→Int):Prop where
 lo:∀ c,c<n→fj n b w t c≤r (2*c)∧r (2*c)≤fj n b w n c
 hi:∀ c,c<n→fh n b w t c≤-r (2*c+1)∧-r (2*c+1)≤fh n b w n c
 out:∀ i,2*n≤i→r i=w i
theorem lo_le (t s c:Nat):fj n b w t c≤fj n b w (t+s) c:=by
 induction s with
 | zero=>exact Int.le_refl _
 | succ s ih=>have:=BU (n:=n) (b:=b) (w:=w) (t+s) c;rw[show t+s+1=t+(s+1) by omega] at this;omega
theorem BG (t s c:Nat):fh n b w t c≤fh n b w (t+s) c:=by
 induction s with
 | zero=>exact Int.le_refl _
 | succ s ih=>have:=BH (n:=n) (b:=b) (w:=w) (t+s) c;rw[show t+s+1=t+(s+1) by omega] at this;omega
theorem Oa:Bd n b w 0 w:=⟨fun c _=>⟨Int.le_refl _,by have:=lo_le (n:=n) (b:=b) (w:=w) 0 n c;rwa [Nat.zero_add] at this⟩,fun c _=>⟨Int.le_refl _,by have:=BG (n:=n) (b:=b) (w:=w) 0 n c;rwa [Nat.zero_add] at this⟩,fun i _=>rfl⟩
theorem JY (h:fB n b=false) {t:Nat} {r:Nat→Int} (hr:Bd n b w t r) {a c:Nat} (ha:a<n) (hc:c<n) (hp:(b c).testBit a=true):Bd n b w t (AU r a c)∧(∀ d,r (2*d)≤AU r a c (2*d))∧(∀ d,AU r a c (2*d+1)≤r (2*d+1))∧r (2*a)+1≤AU r a c (2*c)∧AU r a c (2*a+1)≤r (2*c+1)-1:=by
 have h1:=EY (w:=w) h ha hc hp
 have h2:=IH (w:=w) h ha hc hp
 have la:=hr.lo a ha
 have ha2:=hr.hi a ha
 have hc2:=hr.hi c hc
 refine ⟨⟨fun d hd=>?_,fun d hd=>?_,fun i hi=>by rw[Ib r ha hc hi];exact hr.out i hi⟩,fun d=>?_,fun d=>?_,?_,?_⟩
 · have:=hr.lo d hd
   rw[AX]
   split
   · rename_i e;subst e;omega
   · exact this
 · have:=hr.hi d hd
   rw[AW]
   split
   · rename_i e;subst e;omega
   · exact this
 · rw[AX];split
   · rename_i e;subst e;omega
   · omega
 · rw[AW];split
   · rename_i e;subst e;omega
   · omega
 · rw[AX,if_pos rfl];omega
 · rw[AW,if_pos rfl];omega
theorem qV (h:fB n b=false) {t:Nat}:∀ (l:List (Nat×Nat)) {r:Nat→Int},Bd n b w t r→(∀ p ∈ l,p.1<n∧p.2<n∧(b p.2).testBit p.1=true) →
 Bd n b w t (nR r l)∧(∀ d,r (2*d)≤nR r l (2*d))∧(∀ d,nR r l (2*d+1)≤r (2*d+1))∧(∀ p ∈ l,r (2*p.1)+1≤nR r l (2*p.2)∧nR r l (2*p.1+1)≤r (2*p.2+1)-1)
 | [],r,hr,_=>⟨hr,fun d=>Int.le_refl _,fun d=>Int.le_refl _,fun p hp=>by cases hp⟩
 | p :: l,r,hr,hl=>by
   obtain ⟨p1,p2,p3⟩:=hl p (by simp)
   obtain ⟨s1,s2,s3,s4,s5⟩:=JY h hr p1 p2 p3
   obtain ⟨i1,i2,i3,i4⟩:=qV h l s1 (fun q hq=>hl q (List.mem_cons_of_mem _ hq))
   refine ⟨i1,fun d=>Int.le_trans (s2 d) (i2 d),fun d=>Int.le_trans (i3 d) (s3 d),fun q hq=>?_⟩
   rcases List.mem_cons.1 hq with rfl | hq
   · exact ⟨Int.le_trans s4 (i2 _),Int.le_trans (i3 _) s5⟩
   · have:=i4 q hq
     have a1:=s2 q.1
     have a2:=s3 q.2
     exact ⟨by show r (2*q.1)+1≤nR (AU r p.1 p.2) l (2*q.2);omega,by show nR (AU r p.1 p.2) l (2*q.1+1)≤r (2*q.2+1)-1;omega⟩
def Gl (n:Nat) (b:Nat→Nat) (l:List (Nat×Nat)):Prop:=∀ a c,(a,c) ∈ l↔a<n∧c<n∧(b c).testBit a=true
theorem DY (h:fB n b=false) {t:Nat} {l:List (Nat×Nat)} (hl:Gl n b l) {r:Nat→Int} (hr:Bd n b w t r):Bd n b w (t+1) (nR r l):=by
 obtain ⟨i1,i2,i3,i4⟩:=qV h l hr (fun p hp=>(hl p.1 p.2).1 hp)
 refine ⟨fun c hc=>⟨?_,(i1.lo c hc).2⟩,fun a ha=>⟨?_,(i1.hi a ha).2⟩,i1.out⟩
 · rcases jd (fj n b w t c) (fun a=>fj n b w t a+1) (fun a=>(b c).testBit a) n with e | ⟨a,h1,h2,h3⟩
   · have:fj n b w (t+1) c=fj n b w t c:=e
     have:=(i1.lo c hc).1
     omega
   · have e:fj n b w (t+1) c=fj n b w t a+1:=h3
     have:=(i4 (a,c) ((hl a c).2 ⟨h1,hc,h2⟩)).1
     have:=(hr.lo a h1).1
     dsimp only at *
     omega
 · rcases jd (fh n b w t a) (fun c=>fh n b w t c+1) (fun c=>(b c).testBit a) n with e | ⟨c,h1,h2,h3⟩
   · have:fh n b w (t+1) a=fh n b w t a:=e
     have:=(i1.hi a ha).1
     omega
   · have e:fh n b w (t+1) a=fh n b w t c+1:=h3
     have:=(i4 (a,c) ((hl a c).2 ⟨ha,h1,h2⟩)).2
     have:=(hr.hi c h1).1
     dsimp only at *
     omega
theorem DX {t:Nat} (ht:n≤t) {r:Nat→Int} (hr:Bd n b w t r):r=hJ n b w:=by
 funext i
 unfold hJ
 by_cases hi:i<2*n
 · rw[if_pos hi]
   by_cases e:i % 2=0
   · rw[if_pos e]
     have:=hr.lo (i / 2) (by omega)
     have h2:=lo_le (n:=n) (b:=b) (w:=w) n (t-n) (i / 2)
     rw[show n+(t-n)=t by omega] at h2
     rw[show 2*(i / 2)=i by omega] at this
     omega
   · rw[if_neg e]
     have:=hr.hi (i / 2) (by omega)
     have h2:=BG (n:=n) (b:=b) (w:=w) n (t-n) (i / 2)
     rw[show n+(t-n)=t by omega] at h2
     rw[show 2*(i / 2)+1=i by omega] at this
     omega
 · rw[if_neg hi];exact hr.out i (by omega)
theorem GB (h:fB n b=false) {t:Nat} {l:List (Nat×Nat)} (hl:Gl n b l) {r:Nat→Int} (hr:Bd n b w t r) (hs:nR r l=r):r=hJ n b w:=by
 have:∀ s,Bd n b w (t+s) r:=by
  intro s
  induction s with
  | zero=>exact hr
  | succ s ih=>have:=DY h hl ih;rw[hs] at this;exact this
 exact DX (t:=t+n) (by omega) (this n)
def ir (l:List (Nat×Nat)) (w:Nat→Int):Nat→Nat→Int
 | 0=>w
 | t+1=>nR (ir l w t) l
theorem oZ (h:fB n b=false) {l:List (Nat×Nat)} (hl:Gl n b l):∀ t,Bd n b w t (ir l w t)
 | 0=>Oa
 | t+1=>DY h hl (oZ h hl t)
end
end Go.Eng.Gall
end
section
namespace Go.Eng.Gall
def l6 (x:Nat):Nat:=Go.Lib.ctz 64 x
theorem Hf {x:Nat} (h0:x≠0) (h:x<2 ^ 64):∃ m,x=2 ^ l6 x*(2*m+1):=by
 obtain ⟨m,hm,_⟩:=Go.Lib.ctzFrom_spec 64 x (by omega) h
 refine ⟨m,?_⟩
 have e:l6 x=Go.Lib.ctzFrom 64 x:=by unfold l6;simp[Go.Lib.ctz,h0]
 rw[e];exact hm
theorem KN {x:Nat} (h0:x≠0) (h:x<2 ^ 64):x.testBit (l6 x)=true∧(∀ i,i<l6 x→x.testBit i=false)∧∀ i,(x &&& (x-1)).testBit i=(x.testBit i && !decide (i=l6 x)):=by
 obtain ⟨m,hm⟩:=Hf h0 h
 generalize l6 x=k at *
 have hp:=Nat.two_pow_pos k
 have b1:∀ i,x.testBit i=if i<k then false else (2*m+1).testBit (i-k):=fun i=>by
  have:=Nat.testBit_two_pow_mul_add (2*m+1) hp i
  rw[Nat.add_zero] at this
  rw[hm,this,Nat.zero_testBit]
 have hx1:x-1=2 ^ k*(2*m)+(2 ^ k-1):=by rw[hm,Nat.mul_add];omega
 have b2:∀ i,(x-1).testBit i=if i<k then (2 ^ k-1).testBit i else (2*m).testBit (i-k):=fun i=>by
  rw[hx1,Nat.testBit_two_pow_mul_add (2*m) (show 2 ^ k-1<2 ^ k by omega) i]
 refine ⟨?_,fun i hi=>by rw[b1,if_pos hi],fun i=>?_⟩
 · rw[b1,if_neg (by omega),Nat.sub_self,Nat.testBit_zero];simp
 · rw[Nat.testBit_and,b1,b2]
   by_cases hi:i<k
   · rw[if_pos hi];simp
   · rw[if_neg hi,if_neg hi]
     by_cases e:i=k
     · subst e
       rw[Nat.sub_self,Nat.testBit_zero,Nat.testBit_zero];simp
     · obtain ⟨d,hd⟩:∃ d,i-k=d+1:=⟨i-k-1,by omega⟩
       rw[hd,Nat.testBit_succ,Nat.testBit_succ,show (2*m+1) / 2=m by omega,show 2*m / 2=m by omega,decide_eq_false e];simp
def jP (x:Nat):Nat→Nat
 | 0=>x
 | k+1=>jP x k &&& (jP x k-1)
def mB:Nat→Nat→List Nat
 | 0,_=>[]
 | f+1,x=>if x=0 then [] else l6 x::mB f (x &&& (x-1))
theorem vr (x k:Nat):jP x (k+1)=jP (x &&& (x-1)) k:=by
 induction k with
 | zero=>rfl
 | succ k ih=>show jP x (k+1) &&& (jP x (k+1)-1)=_;rw[ih];rfl
theorem vJ:∀ (f x:Nat),x<2 ^ 64→(∀ i,x.testBit i=true→10≤i+f∧i<10) →
 (∀ a,a ∈ mB f x↔x.testBit a=true)∧(∀ k (hk:k<(mB f x).length),jP x k≠0∧(mB f x)[k]=l6 (jP x k))∧jP x (mB f x).length=0
 | 0,x,h,hb=>by
   have hz:x=0:=by
    apply Nat.eq_of_testBit_eq
    intro i
    rw[Nat.zero_testBit]
    cases e:x.testBit i with
    | false=>rfl
    | true=>have:=hb i e;omega
   subst hz
   refine ⟨fun a=>by simp[mB],fun k hk=>absurd hk (Nat.not_lt_zero k),rfl⟩
 | f + 1,x,h,hb=>by
   by_cases h0:x=0
   · subst h0
     refine ⟨fun a=>by simp[mB],fun k hk=>by simp[mB] at hk,by simp[mB,jP]⟩
   · obtain ⟨l1,l2,l3⟩:=KN h0 h
     have hlt:x &&& (x-1)<2 ^ 64:=Nat.and_lt_two_pow _ (by omega)
     have hw:=hb _ l1
     obtain ⟨i1,i2,i3⟩:=vJ f (x &&& (x-1)) hlt (fun i hi=>by
      rw[l3,Bool.and_eq_true] at hi
      have h1:=hb i hi.1
      refine ⟨?_,h1.2⟩
      have:i≠l6 x:=by simpa using hi.2
      apply Classical.byContradiction
      intro hc
      have:i<l6 x:=by omega
      rw[l2 i this] at hi
      cases hi.1)
     have e:mB (f+1) x=l6 x::mB f (x &&& (x-1)):=by show (if x=0 then _ else _)=_;rw[if_neg h0]
     refine ⟨fun a=>?_,fun k hk=>?_,?_⟩
     · rw[e,List.mem_cons,i1,l3,Bool.and_eq_true]
       constructor
       · rintro (rfl | ⟨h2,_⟩)
         · exact l1
         · exact h2
       · intro h2
         by_cases ea:a=l6 x
         · exact .inl ea
         · exact .inr ⟨h2,by simpa using ea⟩
     · cases k with
       | zero =>
         refine ⟨h0,?_⟩
         simp only[e,List.getElem_cons_zero];rfl
       | succ k =>
         rw[e,List.length_cons] at hk
         have:=i2 k (by omega)
         rw[vr]
         refine ⟨this.1,?_⟩
         simp only[e,List.getElem_cons_succ]
         exact this.2
     · rw[e,List.length_cons,vr];exact i3
theorem K8 (x k:Nat) (h:x<2 ^ 62):jP x k<2 ^ 62:=by
 induction k with
 | zero=>exact h
 | succ k ih=>exact Nat.and_lt_two_pow _ (by show jP x k-1 < _;omega)
def lx (b:Nat→Nat):Nat→List (Nat×Nat)
 | 0=>[]
 | c+1=>lx b c++(mB 10 (b c)).map fun a=>(a,c)
theorem Ci (b:Nat→Nat) (k:Nat) (hb:∀ c,c<k→b c<2 ^ 10) (a c:Nat):(a,c) ∈ lx b k↔c<k∧(b c).testBit a=true:=by
 induction k with
 | zero=>simp[lx]
 | succ k ih =>
   have hk:=hb k (by omega)
   have hall:=(vJ 10 (b k) (Nat.lt_of_lt_of_le hk (by decide)) (fun i hi=>⟨by omega,by
    apply Classical.byContradiction
    intro hc
    have:=Nat.testBit_lt_two_pow (Nat.lt_of_lt_of_le hk (Nat.pow_le_pow_right (by decide) (show 10≤i by omega)))
    rw[hi] at this;cases this⟩)).1
   unfold lx
   rw[List.mem_append,ih (fun c hc=>hb c (by omega)),List.mem_map]
   constructor
   · rintro (⟨h1,h2⟩ | ⟨d,hd,e⟩)
     · exact ⟨by omega,h2⟩
     · simp only[Prod.mk.injEq] at e
       obtain ⟨rfl,rfl⟩:=e
       exact ⟨by omega,(hall d).1 hd⟩
   · rintro ⟨h1,h2⟩
     by_cases e:c=k
     · subst e;exact .inr ⟨a,(hall a).2 h2,rfl⟩
     · exact .inl ⟨by omega,h2⟩
end Go.Eng.Gall
end
