/- The engine: library functions that rewrite a row of integers in place (slices.Sort, slices.Reverse), known by the library's own contracts. -/
import Derived.Test.YtigmfpmabgekoaaGreatV12EngOx6
import Derived.Sort.Row
import Derived.Sort.Grow
import Derived.Sort.OwnSortedInts
import Derived.Test.YtigmfpmabgekoaaGreatV12EngOrax2
import Derived.ProofKit
import Derived.Test.YtigmfpmabgekoaaGreatV12EngKtBx4
set_option linter.unusedVariables false
set_option linter.unusedSimpArgs false
section
namespace Go.Eng
open Go.Sort

noncomputable def Em (g:List Int→List Int) (z:Nat→Int) (off len:Nat):Nat→Int:=fun x=>if off≤x∧x<off+len then (g ((List.range len).map fun q=>z (off+q))).getD (x-off) 0 else z x
noncomputable def D5 (g:List Int→List Int) (args:List AV) (H:aa):Option (AV×aa) :=
 match args with
 | [.slc d i ver off 1 len cap]=>match dc H d i ver with
   | some (.M [.arr .i64 z n])=>if aA H d=false∧0<len∧len<4611686018427387904∧off+len≤n then some (.tup [],dx H d i (ver,.row (.M [.arr .i64 (Em g z off len) n]))) else none
   | _=>none
 | _=>none
def Eo (P:Program) (f:FuncId) (g:List Int→List Int):Prop:=(∃ fn,P.funcs[f]?=some fn∧fn.body.isNone=false)∧(∀ L,(g L).length=L.length) ∧
 ∀ (blk off cap:Nat) (zs:List Int) (w:World),Holds (Value.int .i64) w blk off zs.toArray→blk<w.heap.size→zs.length<4611686018427387904 →
  Calls P f #[.slice (some ⟨blk,off,none⟩) zs.length cap] w fun e w'=>e=.returned (.tuple #[])∧∃ n os,w'=grow (putRow (Value.int .i64) (Sort.ahead w n) blk off (g zs).toArray) os
theorem CK {P:Program} {f:FuncId} {g:List Int→List Int} (hS:Eo P f g) {args:List AV} {H:aa} {v:AV} {H':aa} (h:D5 g args H=some (v,H')) (hne:H≠[])
 {p:aH} {M:Mu} {w:World} {cargs:Array Value} (hH:a6 p M H w) (hA:gI p M args cargs):(∃ fn,P.funcs[f]?=some fn∧fn.body.isNone=false)∧CallsIn Fence.wide 0 P f cargs w (j8 p M H w v H'):=by
 obtain ⟨hfn,hlen,hcall⟩:=hS
 refine ⟨hfn,callsIn_wide.2 ?_⟩
 unfold D5 at h
 split at h
 case h_2=>simp at h
 rename_i d i ver off len cap
 split at h
 case h_2=>simp at h
 rename_i z n hq
 split at h
 case isFalse=>simp at h
 rename_i hc
 obtain ⟨hl,hpos,hsz,hoff⟩:=hc
 simp only[nP] at h
 obtain ⟨rfl,rfl⟩:=h
 have hg:=fi hq
 obtain ⟨b,o,t,hm,⟨c,e,hb,hct,hot,hr⟩,_⟩:=hH.live d i ver (.row (.M [.arr .i64 z n])) hg (by simp)
 have hn:Row.len (.M [.arr .i64 z n])=n:=by simp[Row.len,aE,aM]
 rw[hn] at hot
 have hgetM:∀ (y:Nat→Int) (j:Nat),j<n→Row.get (.M [.arr .i64 y n]) j=.int .i64 (y j):=fun y j hj=>by
  show getM [.arr .i64 y n] j=_
  simp only[getM]
  rw[if_pos hj]
 have hcell:∀ j,j<n→c.getD (o+j) undef=.int .i64 (z j):=fun j hj=>by
  have:=hr.get j (by rw[hn];exact hj)
  rw[hgetM z j hj] at this
  exact this.ofInt
 have hblt:b<w.heap.size:=(Array.getElem?_eq_some_iff.1 hb).1
 have hsize:cargs.size=1:=hA.1
 have hv:=hA.2 0 (by simp)
 have hd:cargs=#[cargs.getD 0 undef]:=by
  apply Array.ext
  · simpa using hsize
  · intro j h1 h2
    have:j=0:=by omega
    subst this
    simp[Array.getD,hsize]
 generalize cargs.getD 0 undef=cv at hv hd
 subst hd
 have hv:aj p M (.slc d i ver off 1 len cap) cv:=hv
 cases hv with
 | slc hm2 hl2 hc2 hn2 hx2 =>
   rename_i b2 o2 t2 x cc
   rw[hm] at hm2
   simp only[nP] at hm2
   obtain ⟨rfl,rfl,rfl⟩:=hm2
   have hx:x=o+off:=by
    rcases hx2 with h0 | h0
    · omega
    · exact h0
   subst hx
   have hzl:((List.range len).map fun q=>z (off+q)).length=len:=by simp
   generalize hzs:((List.range len).map fun q=>z (off+q))=zs at hzl
   have hz:∀ j,(hj:j<zs.length)→zs[j]=z (off+j):=fun j hj=>by
    subst hzs;simp
   have hsz2:zs.length<4611686018427387904:=by rw[hzl];exact hsz
   have hh:Holds (Value.int .i64) w b (o+off) zs.toArray:=by
    intro j hj
    have hj':j<zs.length:=by simpa using hj
    have h1:=hcell (off+j) (by omega)
    have hcs:o+off+j<c.size:=by omega
    refine ⟨?_,by simp[World.frozen?,hb]⟩
    simp only[World.cell?,hb]
    simp only[Option.isSome_none,Bool.false_eq_true,if_false]
    rw[show o+(off+j)=o+off+j by omega] at h1
    have h2:c[o+off+j]?=some (.int .i64 (z (off+j))):=by
     rw[Array.getElem?_eq_getElem hcs]
     simp only[Array.getD,hcs,dif_pos] at h1
     simpa using h1
    rw[h2]
    simp[hj',hz j hj']
   rw[← hzl]
   refine (hcall b (o+off) cc zs w hh hblt hsz2).mono ?_
   rintro en w' ⟨rfl,nn,os,rfl⟩
   rw[hzl]
   have hgl:=hlen zs
   have hb':(grow (putRow (Value.int .i64) (Sort.ahead w nn) b (o+off) (g zs).toArray) os).heap[b]?=some (.cells (putCells (Value.int .i64) (o+off) (g zs).toArray c) e (0,0)):=by
    rw[heap_grow_old _ _ (by simpa[putRow,mapBlock,Sort.ahead] using hblt)]
    simp[putRow,mapBlock,Sort.ahead,Array.getElem?_modify,hb,onCells]
   have st:cZ (fun x=>x≠b) w (grow (putRow (Value.int .i64) (Sort.ahead w nn) b (o+off) (g zs).toArray) os):=by
    refine ⟨rfl,rfl,rfl,?_,fun k hk hne=>?_⟩
    · simp[grow,putRow,mapBlock,Sort.ahead]
    · rw[heap_grow_old _ _ (by simpa[putRow,mapBlock,Sort.ahead] using hk)]
      simp[putRow,mapBlock,Sort.ahead,Array.getElem?_modify]
      intro h;exact absurd h.symm hne
   have hrel:eM p (M.up d) (.row (.M [.arr .i64 (Em g z off len) n])) b o t (grow (putRow (Value.int .i64) (Sort.ahead w nn) b (o+off) (g zs).toArray) os):=by
    have hn':Row.len (.M [.arr .i64 (Em g z off len) n])=n:=by simp[Row.len,aE,aM]
    refine ⟨_,e,hb',by simp[putCells,hct],by rw[hn'];exact hot,fun j hj=>?_⟩
    rw[hn'] at hj
    have hcs:o+j<c.size:=by omega
    have key:(putCells (Value.int .i64) (o+off) (g zs).toArray c).getD (o+j) undef=.int .i64 (Em g z off len j):=by
     have h1:=hcell j hj
     simp only[Array.getD,hcs,dif_pos] at h1
     simp only[Array.getD,putCells,Array.size_mapIdx,hcs,dif_pos,Array.getInternal_eq_getElem,Array.getElem_mapIdx]
     unfold Em
     rw[hzs]
     have hs3:(g zs).toArray.size=len:=by simp[hgl,hzl]
     by_cases hin:off≤j∧j<off+len
     · rw[if_pos (by rw[hs3];omega),if_pos hin]
       have e1:o+j-(o+off)=j-off:=by omega
       rw[e1]
       have hlt:j-off<(g zs).length:=by omega
       simp[List.getD_eq_getElem?_getD,hlt]
     · rw[if_neg (by rw[hs3];omega),if_neg hin]
       simpa using h1
    refine ⟨?_,by show ((putCells (Value.int .i64) (o+off) (g zs).toArray c).getD (o+j) undef).oneCell'=true;rw[key];rfl⟩
    show aj p (jL (M.up d) (.M [.arr .i64 (Em g z off len) n])) (Row.get (.M [.arr .i64 (Em g z off len) n]) j) ((putCells (Value.int .i64) (o+off) (g zs).toArray c).getD (o+j) undef)
    rw[key,hgetM _ j hj]
    exact .int _ _
   obtain ⟨p',M',hE,hvt⟩:=si (v:=.tup []) (δ:=.set d i (ver,.row (.M [.arr .i64 (Em g z off len) n]))) (cv:=.tuple #[]) hne hH ⟨ver,_,b,o,t,b,o,t,hg,by simp,hl,hm,by simp,hrel,st,.inl rfl,.tup rfl (fun j hj=>absurd hj (by simp)),.inl ⟨rfl,rfl,rfl,rfl⟩⟩
   refine ⟨_,rfl,⟨fun d' i' hl'=>?_,fun d' _=>bQ _ _ _ _ _⟩,p',M',hE,hvt⟩
   rw[dE,if_neg]
   rintro ⟨rfl,_,_⟩
   rw[hl] at hl';cases hl'
end Go.Eng
end
section
namespace Go.Eng
open Go.ChangeShapes Go.RowKit

theorem vh {H:Type} {enc:TypeId×Value→H} {P:Program} {f:Func} {s:ChangeSpec} {apart fresh handsOn again:Bool} {W W':World} {args:Array Value} {v:Value} {ds gs:List (DataW H)} {before pa pv:List MemPlace}
 (hW:DataW.Whole enc P f.params.toList s.vars apart W args.toList ds gs before) (hb:Below W.heap.size W W')
 (hres:∀ (b:Nat) (sp:Nat→Bool) (hd:Bool),DataW.TrodAll enc P W' b sp hd f.resultTypes.toList (v.resultList f.resultTypes.size) (s.fn H (ds++gs)).results [])
 (hargs:∀ sp:Nat→Bool,(∀ p ∈ before,sp p.block=true)→DataW.TrodAll enc P W' 0 sp true f.params.toList args.toList (s.fn H (ds++gs)).args pa)
 (hvars:∀ sp:Nat→Bool,(∀ p ∈ before,sp p.block=true)→DataW.TrodVars enc P W' sp s.vars (s.fn H (ds++gs)).vars pv) (hps:before=pa++pv)
 (hok:∀ (j:Nat) (t:TypeId) (r:Value),f.resultTypes[j]?=some t→(v.resultList f.resultTypes.size)[j]?=some r→Value.okWide P W' .any 0 t r) :
 s.post enc P f apart fresh handsOn again W args v W':=by
 have old:∀ p ∈ before,p.block<W.heap.size:=fun p hp=>hW.lt p hp
 have hz:=hW
 obtain ⟨_,_,_,_,_,hz,hn⟩:=hz
 refine ⟨ds,gs,before,[],pa,pv,hW,hres _ _ _,hargs _ (fun p hp=>by simpa using old p hp),hvars _ (fun p hp=>by simpa using old p hp),hb.frame _,fun _=>⟨hok,_,_,[]++pa++pv,⟨[]++pa,pv,trodAll_append (hargs _ (fun _ _=>rfl)) (hres _ _ _),hvars _ (fun _ _=>rfl),rfl,?_,?_⟩,?_⟩⟩
 · intro b off hp
   have hp':MemPlace.cell b off ∈ before:=by rw[hps];simpa using hp
   rw[hb.frozen (old _ hp')]
   exact hz b off hp'
 · intro ha
   have:=hn ha
   rw[hps] at this
   simpa using this
 · intro p hp _
   rw[hps]
   simpa using hp

end Go.Eng
end
section
namespace Go.Eng
open Go.ChangeShapes

def Pw (w:World):aH:=fun b o=>w.cell? ⟨b,o,none⟩
theorem a6.all (w:World):a6 (Pw w) Mu.no [⟨true,[]⟩] w where
 pers:=fun b o v h=>h
 live:=fun d i v B hg hB=>by
  cases d<;>simp[ar,an] at hg<;>exact absurd hg.2.symm hB
 apart:=fun d i v B d' i' v' B' b o t o' t' hg hB hg' hB' hm hm'=>by cases hm
 dom:=fun d i v t hm=>by cases hm

theorem Dq {P:Program} {call:aS} (hC:bL P call) {f:FuncId} {args:List AV} {x:Bool} {H':aa} (h:call (.fn f) args [⟨true,[]⟩]=some (.bool x,H')) {cargs:Array Value} {w:World} (hA:gI (Pw w) Mu.no args cargs) :
 Calls P f cargs w (fun e w'=>e=.returned (.bool x)∧Go.RowKit.Below w.heap.size w w'):=by
 have:=(hC (.fn f) args _ (.bool x) H' h (by simp) _ _ w cargs (a6.all w) hA).2
 refine (callsIn_wide.1 this).mono ?_
 rintro e w' ⟨cv,rfl,_,p',M',hE,hv⟩
 cases hv
 exact ⟨rfl,(hE.stay.weaken (fun b _ _ d i v B _ _ _ o t hm=>by cases hm)).below⟩

def mn (k:IntKind) (P:Program) (t:TypeId) (n:Nat):Prop:=∀ (H:Type) (enc:TypeId×Value→H) (w:World) (base:Nat) (sp:Nat→Bool) (held:Bool) (fuel:Nat) (cs:List Value) (x:DataW H×List MemPlace),
 DataW.trod enc P w base sp held fuel t cs=some x→cs.length=n∧∀ j,j<n→∃ z:Int,cs[j]?=some (.int k z)∧(Lit.int k z).wf=true
abbrev En (P:Program) (t:TypeId) (n:Nat):Prop:=mn .i64 P t n
theorem Fc {P:Program} {t:TypeId} {k:IntKind} (ht:P.underlying t=some (.int k)):mn k P t 1:=by
 intro H enc w base sp held fuel cs x h
 obtain ⟨n,rfl,_,hw⟩:=DataW.trod_int ht h
 refine ⟨rfl,fun j hj=>?_⟩
 obtain rfl:j=0:=by omega
 exact ⟨n,rfl,hw⟩
theorem xh {P:Program} {k:IntKind} {t:TypeId} {f0 f1:Field} {n0 n1:Nat} (ht:P.underlying t=some (.struct #[f0,f1])) (h0:mn k P f0.type n0) (h1:mn k P f1.type n1) (o0:f0.offset=0) (o1:f1.offset=n0) (c0:P.cellsOf f0.type=n0) (c1:P.cellsOf f1.type=n1) (c:P.cellsOf t=n0+n1):mn k P t (n0+n1):=by
 intro H enc w base sp held fuel cs x h
 obtain ⟨y0,y1,n,_,hl,g0,g1⟩:=trod_struct2 ht h
 obtain ⟨k0,k1⟩:=h0 _ _ _ _ _ _ _ _ _ g0
 obtain ⟨m0,m1⟩:=h1 _ _ _ _ _ _ _ _ _ g1
 refine ⟨by rw[hl,c],fun j hj=>?_⟩
 by_cases hlt:j<n0
 · obtain ⟨z,hz,hw⟩:=k1 j hlt
   refine ⟨z,?_,hw⟩
   rw[o0,c0] at hz
   simpa[List.getElem?_take,hlt] using hz
 · obtain ⟨z,hz,hw⟩:=m1 (j-n0) (by omega)
   refine ⟨z,?_,hw⟩
   rw[o1,c1] at hz
   have hlt2:j-n0<n1:=by omega
   simpa[List.getElem?_take,hlt2,List.getElem?_drop,show n0+(j-n0)=j by omega] using hz

theorem sW {w:World} {a:Addr}:∀ (l:List Nat) (cs:List Value),(l.mapM fun i=>w.cell? (a.add i))=some cs→∀ (j i:Nat),l[j]?=some i→∃ v,cs[j]?=some v∧w.cell? (a.add i)=some v
 | [],cs,h,j,i,hi=>by simp at hi
 | x::l,cs,h,j,i,hi=>by
   simp only[List.mapM_cons,Option.bind_eq_bind,Option.bind_eq_some_iff,Option.pure_def,Option.some.injEq] at h
   obtain ⟨v,hv,r,hr,rfl⟩:=h
   cases j with
   | zero=>simp at hi;subst hi;exact ⟨v,rfl,hv⟩
   | succ j=>exact sW l r hr j i (by simpa using hi)

theorem Bs {P:Program} {k:IntKind} {t e:TypeId} {n:Nat} (ht:P.underlying t=some (.slice e)) (he:mn k P e n) (hn:0<n) (hc:P.cellsOf e=n) {H:Type} {enc:TypeId×Value→H} {w:World} {base:Nat} {sp:Nat→Bool} {held:Bool} {fuel:Nat} {v:Value} {x:DataW H×List MemPlace}
 (hspot:∀ a l c,v=.slice (some a) l c→a.spot=none) (h:DataW.trod enc P w base sp held fuel t [v]=some x) :
 (v=.slice none 0 0)∨∃ (zs:Nat→Int) (len:Nat),aj (Pw w) Mu.no (.slcT none (.F (fun j=>.int k (zs j)) (len*n)) n len false) v∧∀ j,j<len*n→(Lit.int k (zs j)).wf=true:=by
 rcases DataW.trod_slice ht h with ⟨h0,_⟩ | ⟨a,len,cap,elems,rest,m,_,hcs,_,_,hl,_,hlen,hel,_,_⟩
 · left;simpa using h0
 · right
   simp only[List.cons.injEq,and_true] at hcs
   have hsp:=hspot a len cap hcs
   have cell:∀ j,j<len*n→∃ z:Int,w.cell? ⟨a.block,a.off+j,none⟩=some (.int k z)∧(Lit.int k z).wf=true:=by
    intro j hj
    have hi:j / n<len:=by rw[Nat.div_lt_iff_lt_mul hn];exact hj
    have:=hel (j / n) hi
    have hex:elems[j / n]?≠none:=by simp;omega
    rw[← this] at hex
    cases hcl:w.cells? base (a.add (j / n*P.cellsOf e)) (P.cellsOf e) with
    | none=>rw[hcl] at hex;simp at hex
    | some cs =>
      rw[hcl] at hex
      cases hy:DataW.trod enc P w base sp held m e cs with
      | none=>simp[hy] at hex
      | some y =>
        obtain ⟨k0,k1⟩:=he _ _ _ _ _ _ _ _ _ hy
        obtain ⟨z,hz,hw⟩:=k1 (j % n) (Nat.mod_lt _ hn)
        unfold World.cells? at hcl
        split at hcl
        · obtain ⟨u,hu,hcu⟩:=sW _ _ hcl (j % n) (j % n) (by rw[hc];simp[Nat.mod_lt _ hn])
          rw[hz] at hu
          have hu:=Option.some.inj hu
          subst hu
          refine ⟨z,?_,hw⟩
          rw[hc] at hcu
          have e1:(a.add (j / n*n)).add (j % n)=⟨a.block,a.off+j,none⟩:=by
           have hd:=Nat.div_add_mod j n
           have hd2:j / n*n+j % n=j:=by rw[Nat.mul_comm];exact hd
           cases a
           simp only at hsp
           subst hsp
           have ad:∀ (b o i:Nat),Addr.add ⟨b,o,none⟩ i=⟨b,o+i,none⟩:=fun b o i=>by
            unfold Addr.add
            split
            · rename_i h0;subst h0;rfl
            · rfl
           rw[ad,ad,Nat.add_assoc,hd2]
          rw[← e1];exact hcu
        · simp at hcl
   obtain ⟨zs,hzs⟩:∃ zs:Nat→Int,∀ j,j<len*n→w.cell? ⟨a.block,a.off+j,none⟩=some (.int k (zs j))∧(Lit.int k (zs j)).wf=true :=
    ⟨fun j=>if h:j<len*n then Classical.choose (cell j h) else 0,fun j hj=>by
      have:=Classical.choose_spec (cell j hj)
      simp only[dif_pos hj]
      exact this⟩
   refine ⟨zs,len,?_,fun j hj=>(hzs j hj).2⟩
   rw[hcs]
   obtain ⟨b,o,sp'⟩:=a
   simp only at hsp
   subst hsp
   exact .slcT (o:=o) (fun j=>.int k (zs j)) (fun j hj=>(hzs j hj).1) (fun j hj=>rfl) (fun j hj=>.int _ _) hl (fun h=>by cases h) (.inr rfl)

end Go.Eng
end
section
namespace Go.Eng
def ku (f:Nat→Int):Nat→Int
 | 0=>0
 | i+1=>ku f i+f i
theorem di {f g:Nat→Int}:∀ n,(∀ i,i<n→f i=g i)→ku f n=ku g n
 | 0,_=>rfl
 | n+1,h=>by
   show ku f n+f n=ku g n+g n
   rw[di n (fun i hi=>h i (by omega)),h n (by omega)]
theorem Bu {f g:Nat→Int}:∀ n,(∀ i,i<n→f i≤g i)→ku f n≤ku g n
 | 0,_=>Int.le_refl _
 | n+1,h=>by
   have:=Bu n (fun i hi=>h i (by omega))
   have:=h n (by omega)
   show ku f n+f n≤ku g n+g n
   omega
theorem CQ (f g:Nat→Int):∀ n,ku (fun i=>f i+g i) n=ku f n+ku g n
 | 0=>rfl
 | n+1=>by
   show ku (fun i=>f i+g i) n+(f n+g n)=(ku f n+f n)+(ku g n+g n)
   rw[CQ f g n];omega
theorem CR (t:Int) (f:Nat→Int):∀ n,ku (fun i=>t*f i) n=t*ku f n
 | 0=>by show (0:Int)=t*0;simp
 | n+1=>by
   show ku (fun i=>t*f i) n+t*f n=t*(ku f n+f n)
   rw[CR t f n,Int.mul_add]
theorem Aj {f:Nat→Int} {n:Nat} (h:∀ i,i<n→f i=0):ku f n=0:=by
 rw[di (g:=fun _=>0) n h]
 clear h
 induction n with
 | zero=>rfl
 | succ n ih=>show ku (fun _=>0) n+0=0;rw[ih];rfl
theorem Gx {f:Nat→Int}:∀ n,(∀ i,i<n→0≤f i)→0≤ku f n
 | 0,_=>Int.le_refl _
 | n+1,h=>by
   have:=Gx n (fun i hi=>h i (by omega))
   have:=h n (by omega)
   show 0≤ku f n+f n
   omega
section
variable (N:Nat) (lo hi w:Nat→Int)
def ke (x:Int) (i:Nat):Bool:=decide (lo i≤x) && decide (x≤hi i)
def jr (S:List Int) (i:Nat):Bool:=S.any fun x=>ke lo hi x i
def uC (S:List Int):Int:=ku (fun i=>if jr lo hi S i=true then w i else 0) N
def Le (old:Nat→Bool) (x:Int):Int:=ku (fun i=>if ke lo hi x i=true∧old i=false then w i else 0) N
def iD (K:Nat) (M:Int):Prop:=(∃ S:List Int,S.length≤K∧uC N lo hi w S=M)∧∀ S:List Int,S.length≤K→uC N lo hi w S≤M
end
section
variable {N:Nat} {lo hi w:Nat→Int}
theorem ou {K:Nat} {M M':Int} (h:iD N lo hi w K M) (h':iD N lo hi w K M'):M=M':=by
 obtain ⟨⟨S,a,b⟩,c⟩:=h
 obtain ⟨⟨S',a',b'⟩,c'⟩:=h'
 have:=c S' a'
 have:=c' S a
 omega
theorem mT {S:List Int} {i:Nat}:jr lo hi S i=true↔∃ x ∈ S,lo i≤x∧x≤hi i:=by
 unfold jr ke
 rw[List.any_eq_true]
 simp only[Bool.and_eq_true,decide_eq_true_eq]
theorem Lb (hw:∀ i,i<N→0≤w i) {S T:List Int} (h:∀ i,i<N→jr lo hi S i=true→jr lo hi T i=true):uC N lo hi w S≤uC N lo hi w T:=Bu N (fun i hi'=>by
 by_cases c:jr lo hi S i=true
 · rw[if_pos c,if_pos (h i hi' c)];exact Int.le_refl _
 · rw[if_neg c]
   split
   · exact hw i hi'
   · exact Int.le_refl _)
theorem De:uC N lo hi w []=0:=Aj (fun i _=>by rw[if_neg (by simp[jr])])
theorem Ax {S:List Int} {a x:Int} (ha:a ∈ S) (hS:∀ y ∈ S,y≤a) (hax:a≤x):uC N lo hi w (S++[x])=uC N lo hi w S+Le N lo hi w (ke lo hi a) x:=by
 unfold uC Le
 rw[← CQ]
 refine di N (fun i _=>?_)
 have e:jr lo hi (S++[x]) i=(jr lo hi S i || ke lo hi x i):=by unfold jr;simp
 rw[e]
 cases hx:ke lo hi x i with
 | false =>
   rw[Bool.or_false,if_neg (c:=_∧_) (by simp)]
   omega
 | true =>
   rw[Bool.or_true,if_pos rfl]
   cases hs:jr lo hi S i with
   | false =>
     have:ke lo hi a i=false:=by
      cases h:ke lo hi a i with
      | false=>rfl
      | true =>
        have:jr lo hi S i=true:=List.any_eq_true.2 ⟨a,ha,h⟩
        rw[this] at hs;cases hs
     rw[if_neg (by simp),if_pos ⟨rfl,this⟩];omega
   | true =>
     obtain ⟨y,y1,y2,y3⟩:=mT.1 hs
     have hya:=hS y y1
     have:ke lo hi a i=true:=by
      unfold ke at hx ⊢
      rw[Bool.and_eq_true,decide_eq_true_eq,decide_eq_true_eq] at hx ⊢
      omega
     rw[if_pos rfl,if_neg (by rw[this];simp)];omega
theorem wH (x:Int):uC N lo hi w [x]=Le N lo hi w (fun _=>false) x:=di N (fun i _=>by
 have e:jr lo hi [x] i=ke lo hi x i:=by unfold jr;simp
 rw[e]
 cases ke lo hi x i<;>simp)
end
structure Tb (N:Nat) (lo hi w:Nat→Int) (P:Nat→Int) (m K:Nat) (h:Int→Nat→Bool) (g:Int→Nat→Int) (b:Int→Nat→Int):Prop where
 at0:h (-1) 0=true∧g (-1) 0=0
 from_:∀ p n,h p n=true→(p=-1∧n=0)∨(0≤p∧p<m∧1≤n∧n≤K∧-1≤b p n∧b p n<p∧h (b p n) (n-1)=true∧g p n=g (b p n) (n-1)+Le N lo hi w (if b p n=-1 then fun _=>false else ke lo hi (P (b p n).toNat)) (P p.toNat))
 best:∀ (f:Int) (p n:Nat),-1≤f→f<p→p<m→n<K→h f n=true→h p (n+1)=true∧g f n+Le N lo hi w (if f=-1 then fun _=>false else ke lo hi (P f.toNat)) (P p)≤g p (n+1)
section
variable {N:Nat} {lo hi w:Nat→Int} {P:Nat→Int} {m K:Nat} {h:Int→Nat→Bool} {g:Int→Nat→Int} {b:Int→Nat→Int}
def AA (P:Nat→Int) (b:Int→Nat→Int):Nat→Int→List Int
 | 0,_=>[]
 | n+1,p=>AA P b n (b p (n+1))++[P p.toNat]
theorem lY (P:Nat→Int) (b:Int→Nat→Int):∀ n p,(AA P b n p).length=n
 | 0,_=>rfl
 | n+1,p=>by
   show (AA P b n (b p (n+1))++[P p.toNat]).length=n+1
   rw[List.length_append,lY P b n];rfl
theorem x8 (t:Tb N lo hi w P m K h g b) {p:Int} (hp:h p 0=true):p=-1:=by
 rcases t.from_ p 0 hp with ⟨a,_⟩ | ⟨_,_,a,_⟩
 · exact a
 · omega
theorem GC (t:Tb N lo hi w P m K h g b) (hP:∀ i j,i<j→j<m→P i<P j):∀ n p,h p n=true→uC N lo hi w (AA P b n p)=g p n∧(∀ x ∈ AA P b n p,∃ i,i<m∧(i:Int)≤p∧x=P i)∧(AA P b n p).Pairwise (· < ·)∧(1≤n→0≤p∧p<m)
 | 0,p,hp=>by
   have:=x8 t hp
   subst this
   exact ⟨by rw[t.at0.2];exact De,fun x hx=>(List.not_mem_nil hx).elim,List.Pairwise.nil,fun h=>by omega⟩
 | n + 1,p,hp=>by
   rcases t.from_ p (n+1) hp with ⟨_,a⟩ | ⟨p0,pm,_,_,b1,b2,hb,hg⟩
   · omega
   · rw[Nat.add_sub_cancel] at hb hg
     obtain ⟨i1,i2,i3,i4⟩:=GC t hP n (b p (n+1)) hb
     have hall:∀ x ∈ AA P b n (b p (n+1)),x<P p.toNat:=fun x hx=>by
      obtain ⟨i,h1,h2,rfl⟩:=i2 x hx
      exact hP i p.toNat (by omega) (by omega)
     refine ⟨?_,fun x hx=>?_,List.pairwise_append.2 ⟨i3,List.pairwise_singleton _ _,fun x hx y hy=>by rw[List.mem_singleton.1 hy];exact hall x hx⟩,fun _=>⟨p0,pm⟩⟩
     · show uC N lo hi w (AA P b n (b p (n+1))++[P p.toNat])=_
       rw[hg]
       cases n with
       | zero =>
         have:=x8 t hb
         rw[this,if_pos rfl,t.at0.2,Int.zero_add]
         exact wH _
       | succ n =>
         have hb0:=(i4 (by omega)).1
         rw[if_neg (by omega),← i1]
         refine Ax (a:=P (b p (n+1+1)).toNat) ?_ (fun y hy=>?_) ?_
         · show _ ∈ AA P b n _++[P (b p (n+1+1)).toNat]
           simp
         · obtain ⟨i,h1,h2,rfl⟩:=i2 y hy
           by_cases e:i=(b p (n+1+1)).toNat
           · rw[e];exact Int.le_refl _
           · exact Int.le_of_lt (hP _ _ (by omega) (by have:=(i4 (by omega)).2;omega))
         · exact Int.le_of_lt (hP _ _ (by omega) (by omega))
     · rcases List.mem_append.1 hx with hx | hx
       · obtain ⟨i,h1,h2,h3⟩:=i2 x hx
         exact ⟨i,h1,by omega,h3⟩
       · exact ⟨p.toNat,by omega,by omega,List.mem_singleton.1 hx⟩
theorem IK (t:Tb N lo hi w P m K h g b) (hP:∀ i j,i<j→j<m→P i<P j):∀ (js:List Nat) (p:Nat),(js++[p]).Pairwise (· < ·)→(∀ j ∈ js++[p],j<m)→js.length<K→h p (js.length+1)=true∧uC N lo hi w ((js++[p]).map P)≤g p (js.length+1):=by
 intro js
 induction hl:js.length generalizing js with
 | zero =>
   intro p _ hm hK
   have:js=[]:=List.length_eq_zero_iff.1 hl
   subst this
   obtain ⟨a,c⟩:=t.best (-1) p 0 (by omega) (by omega) (hm p (by simp)) hK t.at0.1
   refine ⟨a,?_⟩
   rw[if_pos rfl,t.at0.2,Int.zero_add] at c
   have e2:(([]:List Nat)++[p]).map P=[P p]:=rfl
   rw[e2,wH]
   exact c
 | succ n ih =>
   intro p hp hm hK
   obtain ⟨ks,q,rfl⟩:∃ ks q,js=ks++[q]:=by
    have hne:js≠[]:=by intro e;rw[e] at hl;cases hl
    exact ⟨js.dropLast,js.getLast hne,(List.dropLast_concat_getLast hne).symm⟩
   have hkl:ks.length=n:=by simpa using hl
   obtain ⟨hp1,_,hp3⟩:=List.pairwise_append.1 hp
   obtain ⟨a,c⟩:=ih ks hkl q hp1 (fun j hj=>hm j (List.mem_append_left _ hj)) (by omega)
   have hqp:q<p:=hp3 q (by simp) p (by simp)
   have hpm:=hm p (by simp)
   obtain ⟨d,e⟩:=t.best (q:Int) p (n+1) (by omega) (by omega) hpm hK a
   refine ⟨d,?_⟩
   rw[if_neg (by omega),Int.toNat_natCast] at e
   have hw:=Ax (N:=N) (lo:=lo) (hi:=hi) (w:=w) (S:=(ks++[q]).map P) (a:=P q) (x:=P p) (by simp) (fun y hy=>by
    obtain ⟨j,hj,rfl⟩:=List.mem_map.1 hy
    rcases List.mem_append.1 hj with hj | hj
    · exact Int.le_of_lt (hP _ _ ((List.pairwise_append.1 hp1).2.2 j hj q (by simp)) (by omega))
    · rw[List.mem_singleton.1 hj];exact Int.le_refl _) (Int.le_of_lt (hP _ _ hqp hpm))
   rw[show ((ks++[q])++[p]).map P=(ks++[q]).map P++[P p] by simp,hw]
   omega
end

theorem zh {α:Type} (p:α→Prop) (v:α→Int):∀ L:List α,(∃ y ∈ L,p y)→∃ y ∈ L,p y∧∀ z ∈ L,p z→v y≤v z
 | [],h=>by obtain ⟨y,hy,_⟩:=h;cases hy
 | a :: L,h=>by
   by_cases hL:∃ y ∈ L,p y
   · obtain ⟨y,y1,y2,y3⟩:=zh p v L hL
     by_cases ha:p a∧v a≤v y
     · refine ⟨a,List.mem_cons_self,ha.1,fun z hz pz=>?_⟩
       rcases List.mem_cons.1 hz with rfl | hz
       · exact Int.le_refl _
       · exact Int.le_trans ha.2 (y3 z hz pz)
     · refine ⟨y,List.mem_cons_of_mem _ y1,y2,fun z hz pz=>?_⟩
       rcases List.mem_cons.1 hz with rfl | hz
       · by_cases h2:v z≤v y
         · exact (ha ⟨pz,h2⟩).elim
         · omega
       · exact y3 z hz pz
   · obtain ⟨y,hy,py⟩:=h
     rcases List.mem_cons.1 hy with rfl | hy
     · refine ⟨y,List.mem_cons_self,py,fun z hz pz=>?_⟩
       rcases List.mem_cons.1 hz with rfl | hz
       · exact Int.le_refl _
       · exact (hL ⟨z,hz,pz⟩).elim
     · exact (hL ⟨y,hy,py⟩).elim
theorem zL {α:Type} [DecidableEq α] (f:Int→α) (L:List α) (hL:L.Nodup):∀ S:List Int,(L.filter fun y=>S.any fun x=>decide (f x=y)).length≤S.length
 | []=>by simp
 | x :: S=>by
   have ih:=zL f L hL S
   have h1:∀ L:List α,L.Nodup→(L.filter fun y=>(x::S).any fun x=>decide (f x=y)).length≤(L.filter fun y=>S.any fun x=>decide (f x=y)).length+(if f x ∈ L then 1 else 0):=by
    intro L
    induction L with
    | nil=>intro _;simp
    | cons a L ihL =>
      intro hn
      rw[List.nodup_cons] at hn
      have:=ihL hn.2
      rw[List.filter_cons,List.filter_cons]
      by_cases ha:f x=a
      · have hna:f x ∉ L:=by rw[ha];exact hn.1
        rw[if_neg hna] at this
        rw[if_pos (show f x ∈ a::L by rw[ha];exact List.mem_cons_self)]
        split<;>split<;>(try simp only[List.length_cons])<;>omega
      · have e:((x::S).any fun x=>decide (f x=a))=S.any fun x=>decide (f x=a):=by
         rw[List.any_cons,show decide (f x=a)=false from decide_eq_false ha,Bool.false_or]
        rw[e]
        have e2:(if f x ∈ a::L then 1 else 0)=(if f x ∈ L then 1 else 0):=by
         by_cases hm:f x ∈ L
         · rw[if_pos hm,if_pos (List.mem_cons_of_mem _ hm)]
         · rw[if_neg hm,if_neg (by rw[List.mem_cons];exact fun h=>h.elim ha hm)]
        rw[e2]
        split<;>(try simp only[List.length_cons])<;>omega
   have:=h1 L hL
   rw[List.length_cons]
   split at this<;>omega
section
variable {N:Nat} {lo hi w:Nat→Int}
theorem Hl {P:Nat→Int} {m:Nat} (hc:∀ i,i<N→lo i≤hi i→∃ j,j<m∧P j=lo i) (S:List Int):∃ js:List Nat,js.Pairwise (· < ·)∧(∀ j ∈ js,j<m)∧js.length≤S.length∧∀ i,i<N→jr lo hi S i=true→jr lo hi (js.map P) i=true:=by
 have hf:∀ x:Int,∃ j:Nat,(∃ j ∈ List.range m,P j≤x)→j ∈ List.range m∧P j≤x∧∀ z ∈ List.range m,P z≤x→-P j≤-P z:=fun x=>by
  by_cases h:∃ j ∈ List.range m,P j≤x
  · obtain ⟨j,a⟩:=zh (fun j=>P j≤x) (fun j=>-P j) (List.range m) h
    exact ⟨j,fun _=>a⟩
  · exact ⟨0,fun c=>(h c).elim⟩
 let f:Int→Nat:=fun x=>Classical.choose (hf x)
 have hf2:∀ x,(∃ j ∈ List.range m,P j≤x)→f x ∈ List.range m∧P (f x)≤x∧∀ z ∈ List.range m,P z≤x→-P (f x)≤-P z:=fun x=>Classical.choose_spec (hf x)
 refine ⟨(List.range m).filter fun y=>S.any fun x=>decide (f x=y),List.Pairwise.filter _ List.pairwise_lt_range,fun j hj=>List.mem_range.1 (List.mem_filter.1 hj).1,zL f _ List.nodup_range S,fun i hi' hs=>?_⟩
 obtain ⟨x,hx,x1,x2⟩:=mT.1 hs
 obtain ⟨j,hj,hP⟩:=hc i hi' (by omega)
 obtain ⟨a1,a2,a3⟩:=hf2 x ⟨j,List.mem_range.2 hj,by omega⟩
 have:=a3 j (List.mem_range.2 hj) (by omega)
 refine mT.2 ⟨P (f x),List.mem_map.2 ⟨f x,List.mem_filter.2 ⟨a1,List.any_eq_true.2 ⟨x,hx,by simp⟩⟩,rfl⟩,by omega,by omega⟩
theorem IL {P:Nat→Int} {m K:Nat} {h:Int→Nat→Bool} {g:Int→Nat→Int} {b:Int→Nat→Int} (t:Tb N lo hi w P m K h g b) (hP:∀ i j,i<j→j<m→P i<P j) (hw:∀ i,i<N→0≤w i) (hc:∀ i,i<N→lo i≤hi i→∃ j,j<m∧P j=lo i) {p:Int} {n:Nat} (hp:h p n=true) (hn:n≤K) (hg:∀ q k,h q k=true→g q k≤g p n):iD N lo hi w K (g p n):=by
 refine ⟨⟨AA P b n p,by rw[lY];exact hn,(GC t hP n p hp).1⟩,fun S hS=>?_⟩
 obtain ⟨js,j1,j2,j3,j4⟩:=Hl (lo:=lo) (hi:=hi) hc S
 refine Int.le_trans (Lb hw j4) ?_
 rcases Nat.eq_zero_or_pos js.length with h0 | h0
 · rw[List.length_eq_zero_iff.1 h0]
   have:=hg (-1) 0 t.at0.1
   rw[t.at0.2] at this
   exact (De (N:=N) (lo:=lo) (hi:=hi) (w:=w)).symm ▸ this
 · obtain ⟨ks,q,rfl⟩:∃ ks q,js=ks++[q]:=by
    have hne:js≠[]:=by intro e;rw[e] at h0;cases h0
    exact ⟨js.dropLast,js.getLast hne,(List.dropLast_concat_getLast hne).symm⟩
   rw[List.length_append,List.length_singleton] at j3
   obtain ⟨a,c⟩:=IK t hP ks q j1 j2 (by omega)
   exact Int.le_trans c (hg _ _ a)
end
end Go.Eng
end
section
namespace Go.Eng
section
variable (N:Nat) (lo hi w:Nat→Int) (L:Nat→Int) (m:Nat)
end
section
variable {N:Nat} {lo hi w:Nat→Int} {L:Nat→Int} {m:Nat}
end
end Go.Eng
end
section
namespace Go.Eng
section
variable {N:Nat} {lo hi w lo' hi' w':Nat→Int}
theorem Dd (t:Int) (S:List Int):uC N lo hi (fun i=>t*w i) S=t*uC N lo hi w S:=by
 unfold uC
 rw[← CR]
 exact di N (fun i _=>by split<;>simp)
theorem wG (hlo:∀ i,i<N→lo' i=lo i) (hhi:∀ i,i<N→hi' i=hi i) (hw:∀ i,i<N→w' i=w i) (S:List Int):uC N lo' hi' w' S=uC N lo hi w S:=di N (fun i hi2=>by
 have e:jr lo' hi' S i=jr lo hi S i:=by
  unfold jr ke
  rw[hlo i hi2,hhi i hi2]
 rw[e,hw i hi2])
theorem A1 {K:Nat} {M:Int} (t:Int) (ht:0≤t) (h:iD N lo hi w K M):iD N lo hi (fun i=>t*w i) K (t*M):=by
 obtain ⟨⟨S,a,b⟩,c⟩:=h
 refine ⟨⟨S,a,by rw[Dd,b]⟩,fun T hT=>?_⟩
 rw[Dd]
 exact Int.mul_le_mul_of_nonneg_left (c T hT) ht
theorem lH {K:Nat} {M:Int} (hlo:∀ i,i<N→lo' i=lo i) (hhi:∀ i,i<N→hi' i=hi i) (hw:∀ i,i<N→w' i=w i) (h:iD N lo hi w K M):iD N lo' hi' w' K M:=by
 obtain ⟨⟨S,a,b⟩,c⟩:=h
 exact ⟨⟨S,a,by rw[wG hlo hhi hw,b]⟩,fun T hT=>by rw[wG hlo hhi hw];exact c T hT⟩
theorem wI (u:Int) (S:List Int):uC N (fun i=>lo i+u) (fun i=>hi i+u) w (S.map (· + u))=uC N lo hi w S:=di N (fun i hi2=>by
 have e:jr (fun i=>lo i+u) (fun i=>hi i+u) (S.map (· + u)) i=jr lo hi S i:=by
  rw[Bool.eq_iff_iff,mT,mT]
  constructor
  · rintro ⟨x,x1,x2,x3⟩
    obtain ⟨y,y1,rfl⟩:=List.mem_map.1 x1
    exact ⟨y,y1,by omega,by omega⟩
  · rintro ⟨x,x1,x2,x3⟩
    exact ⟨x+u,List.mem_map.2 ⟨x,x1,rfl⟩,by omega,by omega⟩
 rw[e])
theorem xt {K:Nat} {M:Int} (u:Int) (h:iD N lo hi w K M):iD N (fun i=>lo i+u) (fun i=>hi i+u) w K M:=by
 obtain ⟨⟨S,a,b⟩,c⟩:=h
 refine ⟨⟨S.map (· + u),by simpa using a,by rw[wI,b]⟩,fun T hT=>?_⟩
 have e:T=(T.map (· - u)).map (· + u):=by
  rw[List.map_map]
  have:((fun x:Int=>x+u) ∘ fun x=>x-u)=id:=by
   funext x
   show x-u+u=x
   omega
  rw[this,List.map_id]
 rw[e,wI]
 exact c _ (by simpa using hT)
theorem wx (f:Nat→Int):∀ n,ku (fun i=>f (i+1)) n+f 0=ku f (n+1)
 | 0=>by show (0:Int)+f 0=0+f 0;rfl
 | n+1=>by
   have:=wx f n
   show ku (fun i=>f (i+1)) n+f (n+1)+f 0=ku f (n+1)+f (n+1)
   omega
theorem Eb (f:Nat→Int) (n:Nat):ku (fun i=>f ((i+1) % n)) n=ku f n:=by
 cases n with
 | zero=>rfl
 | succ n =>
   rw[← wx f n]
   show ku (fun i=>f ((i+1) % (n+1))) n+f ((n+1) % (n+1))=_
   rw[Nat.mod_self,di n (fun i hi=>by rw[Nat.mod_eq_of_lt (show i+1<n+1 by omega)])]
theorem Ai (n:Nat):∀ (r:Nat) (f:Nat→Int),ku (fun i=>f ((i+r) % n)) n=ku f n
 | 0,f=>di n (fun i hi=>by rw[Nat.add_zero,Nat.mod_eq_of_lt hi])
 | r+1,f=>by
   have:=Ai n r (fun j=>f ((j+1) % n))
   rw[Eb] at this
   rw[← this]
   exact di n (fun i hi=>by rw[Nat.mod_add_mod,Nat.add_assoc])
theorem yY {K:Nat} {M:Int} (r:Nat) (h:iD N lo hi w K M):iD N (fun i=>lo ((i+r) % N)) (fun i=>hi ((i+r) % N)) (fun i=>w ((i+r) % N)) K M:=by
 have e:∀ S,uC N (fun i=>lo ((i+r) % N)) (fun i=>hi ((i+r) % N)) (fun i=>w ((i+r) % N)) S=uC N lo hi w S:=fun S=>Ai N r (fun i=>if jr lo hi S i=true then w i else 0)
 obtain ⟨⟨S,a,b⟩,c⟩:=h
 exact ⟨⟨S,a,by rw[e,b]⟩,fun T hT=>by rw[e];exact c T hT⟩
end
end Go.Eng
end
section
namespace Go.Eng
section
variable {N:Nat} {lo hi w:Nat→Int}
end

section
variable {N:Nat} {lo hi w:Nat→Int} {lam:Int}
end
end Go.Eng
end
