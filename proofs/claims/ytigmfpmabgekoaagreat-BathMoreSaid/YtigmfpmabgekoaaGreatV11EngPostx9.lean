/- The engine: from a call's contract to the statement of a law: what was there when the call began is as it was. -/
import Derived.Test.YtigmfpmabgekoaaGreatV11EngOrax2
import Derived.ProofKit
import Derived.Test.YtigmfpmabgekoaaGreatV11EngKtBx5
import Derived.Test.YtigmfpmabgekoaaGreatV11EngRnFx3
import Derived.Test.YtigmfpmabgekoaaGreatV11EngTfx2
set_option linter.unusedVariables false
set_option linter.unusedSimpArgs false
section
namespace Go.Eng
open Go.ChangeShapes Go.RowKit

theorem uL {H:Type} {enc:TypeId×Value→H} {P:Program} {f:Func} {s:ChangeSpec} {apart fresh handsOn again:Bool} {W W':World} {args:Array Value} {v:Value} {ds gs:List (DataW H)} {before pa pv:List MemPlace}
 (hW:DataW.Whole enc P f.params.toList s.vars apart W args.toList ds gs before) (hb:Below W.heap.size W W')
 (hres:∀ (b:Nat) (sp:Nat→Bool) (hd:Bool),DataW.TrodAll enc P W' b sp hd f.resultTypes.toList (v.resultList f.resultTypes.size) (s.fn H (ds++gs)).results [])
 (hargs:∀ sp:Nat→Bool,(∀ p ∈ before,sp p.block=true)→DataW.TrodAll enc P W' 0 sp true f.params.toList args.toList (s.fn H (ds++gs)).args pa)
 (hvars:∀ sp:Nat→Bool,(∀ p ∈ before,sp p.block=true)→DataW.TrodVars enc P W' sp s.vars (s.fn H (ds++gs)).vars pv) (hps:before=pa++pv)
 (hok:∀ (j:Nat) (t:TypeId) (r:Value),f.resultTypes[j]?=some t→(v.resultList f.resultTypes.size)[j]?=some r→Value.okWide P W' .any 0 t r) :
 s.post enc P f apart fresh handsOn again W args v W':=by
 have old:∀ p ∈ before,p.block<W.heap.size:=fun p hp=>hW.lt p hp
 have hz:=hW
 obtain ⟨_,_,_,_,_,hz,hn⟩:=hz
 refine ⟨ds,gs,before,[],pa,pv,hW,hres _ _ _,hargs _ (fun p hp=>by simpa using old p hp),hvars _ (fun p hp=>by simpa using old p hp),hb.frame _,fun _=>⟨hok,_,_,[]++pa++pv,⟨[]++pa,pv,trodAll_append (hargs _ (fun _ _=>rfl)) (hres _ _ _),hvars _ (fun _ _=>rfl),rfl,?_,?_⟩,?_⟩⟩
 · intro b off hp
   have hp':MemPlace.cell b off ∈ before:=by rw[hps];simpa using hp
   rw[hb.frozen (old _ hp')]
   exact hz b off hp'
 · intro ha
   have:=hn ha
   rw[hps] at this
   simpa using this
 · intro p hp _
   rw[hps]
   simpa using hp

end Go.Eng
end
section
namespace Go.Eng
open Go.ChangeShapes

def Pw (w:World):aF:=fun b o=>w.cell? ⟨b,o,none⟩
theorem aV.all (w:World):aV (Pw w) Mu.no [⟨true,[]⟩] w where
 pers:=fun b o v h=>h
 live:=fun d i v B hg hB=>by
  cases d<;>simp[au,ao] at hg<;>exact absurd hg.2.symm hB
 apart:=fun d i v B d' i' v' B' b o t o' t' hg hB hg' hB' hm hm'=>by cases hm
 dom:=fun d i v t hm=>by cases hm

theorem CV {P:Program} {call:aL} (hC:bK P call) {f:FuncId} {args:List AV} {x:Bool} {H':aa} (h:call (.fn f) args [⟨true,[]⟩]=some (.bool x,H')) {cargs:Array Value} {w:World} (hA:gD (Pw w) Mu.no args cargs) :
 Calls P f cargs w (fun e w'=>e=.returned (.bool x)∧Go.RowKit.Below w.heap.size w w'):=by
 have:=(hC (.fn f) args _ (.bool x) H' h (by simp) _ _ w cargs (aV.all w) hA).2
 refine (callsIn_wide.1 this).mono ?_
 rintro e w' ⟨cv,rfl,_,p',M',hE,hv⟩
 cases hv
 exact ⟨rfl,(hE.stay.weaken (fun b _ _ d i v B _ _ _ o t hm=>by cases hm)).below⟩

def jb (k:IntKind) (P:Program) (t:TypeId) (n:Nat):Prop:=∀ (H:Type) (enc:TypeId×Value→H) (w:World) (base:Nat) (sp:Nat→Bool) (held:Bool) (fuel:Nat) (cs:List Value) (x:DataW H×List MemPlace),
 DataW.trod enc P w base sp held fuel t cs=some x→cs.length=n∧∀ j,j<n→∃ z:Int,cs[j]?=some (.int k z)∧(Lit.int k z).wf=true
abbrev DS (P:Program) (t:TypeId) (n:Nat):Prop:=jb .i64 P t n
theorem yj {P:Program} {t:TypeId} {k:IntKind} (ht:P.underlying t=some (.int k)):jb k P t 1:=by
 intro H enc w base sp held fuel cs x h
 obtain ⟨n,rfl,_,hw⟩:=DataW.trod_int ht h
 refine ⟨rfl,fun j hj=>?_⟩
 obtain rfl:j=0:=by omega
 exact ⟨n,rfl,hw⟩
theorem wJ {P:Program} {k:IntKind} {t:TypeId} {f0 f1:Field} {n0 n1:Nat} (ht:P.underlying t=some (.struct #[f0,f1])) (h0:jb k P f0.type n0) (h1:jb k P f1.type n1) (o0:f0.offset=0) (o1:f1.offset=n0) (c0:P.cellsOf f0.type=n0) (c1:P.cellsOf f1.type=n1) (c:P.cellsOf t=n0+n1):jb k P t (n0+n1):=by
 intro H enc w base sp held fuel cs x h
 obtain ⟨y0,y1,n,_,hl,g0,g1⟩:=trod_struct2 ht h
 obtain ⟨k0,k1⟩:=h0 _ _ _ _ _ _ _ _ _ g0
 obtain ⟨m0,m1⟩:=h1 _ _ _ _ _ _ _ _ _ g1
 refine ⟨by rw[hl,c],fun j hj=>?_⟩
 by_cases hlt:j<n0
 · obtain ⟨z,hz,hw⟩:=k1 j hlt
   refine ⟨z,?_,hw⟩
   rw[o0,c0] at hz
   simpa[List.getElem?_take,hlt] using hz
 · obtain ⟨z,hz,hw⟩:=m1 (j-n0) (by omega)
   refine ⟨z,?_,hw⟩
   rw[o1,c1] at hz
   have hlt2:j-n0<n1:=by omega
   simpa[List.getElem?_take,hlt2,List.getElem?_drop,show n0+(j-n0)=j by omega] using hz

theorem sE {w:World} {a:Addr}:∀ (l:List Nat) (cs:List Value),(l.mapM fun i=>w.cell? (a.add i))=some cs→∀ (j i:Nat),l[j]?=some i→∃ v,cs[j]?=some v∧w.cell? (a.add i)=some v
 | [],cs,h,j,i,hi=>by simp at hi
 | x::l,cs,h,j,i,hi=>by
   simp only[List.mapM_cons,Option.bind_eq_bind,Option.bind_eq_some_iff,Option.pure_def,Option.some.injEq] at h
   obtain ⟨v,hv,r,hr,rfl⟩:=h
   cases j with
   | zero=>simp at hi;subst hi;exact ⟨v,rfl,hv⟩
   | succ j=>exact sE l r hr j i (by simpa using hi)

theorem A8 {P:Program} {k:IntKind} {t e:TypeId} {n:Nat} (ht:P.underlying t=some (.slice e)) (he:jb k P e n) (hn:0<n) (hc:P.cellsOf e=n) {H:Type} {enc:TypeId×Value→H} {w:World} {base:Nat} {sp:Nat→Bool} {held:Bool} {fuel:Nat} {v:Value} {x:DataW H×List MemPlace}
 (hspot:∀ a l c,v=.slice (some a) l c→a.spot=none) (h:DataW.trod enc P w base sp held fuel t [v]=some x) :
 (v=.slice none 0 0)∨∃ (zs:Nat→Int) (len:Nat),aj (Pw w) Mu.no (.slcT none (.F (fun j=>.int k (zs j)) (len*n)) n len false) v∧∀ j,j<len*n→(Lit.int k (zs j)).wf=true:=by
 rcases DataW.trod_slice ht h with ⟨h0,_⟩ | ⟨a,len,cap,elems,rest,m,_,hcs,_,_,hl,_,hlen,hel,_,_⟩
 · left;simpa using h0
 · right
   simp only[List.cons.injEq,and_true] at hcs
   have hsp:=hspot a len cap hcs
   have cell:∀ j,j<len*n→∃ z:Int,w.cell? ⟨a.block,a.off+j,none⟩=some (.int k z)∧(Lit.int k z).wf=true:=by
    intro j hj
    have hi:j / n<len:=by rw[Nat.div_lt_iff_lt_mul hn];exact hj
    have:=hel (j / n) hi
    have hex:elems[j / n]?≠none:=by simp;omega
    rw[← this] at hex
    cases hcl:w.cells? base (a.add (j / n*P.cellsOf e)) (P.cellsOf e) with
    | none=>rw[hcl] at hex;simp at hex
    | some cs =>
      rw[hcl] at hex
      cases hy:DataW.trod enc P w base sp held m e cs with
      | none=>simp[hy] at hex
      | some y =>
        obtain ⟨k0,k1⟩:=he _ _ _ _ _ _ _ _ _ hy
        obtain ⟨z,hz,hw⟩:=k1 (j % n) (Nat.mod_lt _ hn)
        unfold World.cells? at hcl
        split at hcl
        · obtain ⟨u,hu,hcu⟩:=sE _ _ hcl (j % n) (j % n) (by rw[hc];simp[Nat.mod_lt _ hn])
          rw[hz] at hu
          have hu:=Option.some.inj hu
          subst hu
          refine ⟨z,?_,hw⟩
          rw[hc] at hcu
          have e1:(a.add (j / n*n)).add (j % n)=⟨a.block,a.off+j,none⟩:=by
           have hd:=Nat.div_add_mod j n
           have hd2:j / n*n+j % n=j:=by rw[Nat.mul_comm];exact hd
           cases a
           simp only at hsp
           subst hsp
           have ad:∀ (b o i:Nat),Addr.add ⟨b,o,none⟩ i=⟨b,o+i,none⟩:=fun b o i=>by
            unfold Addr.add
            split
            · rename_i h0;subst h0;rfl
            · rfl
           rw[ad,ad,Nat.add_assoc,hd2]
          rw[← e1];exact hcu
        · simp at hcl
   obtain ⟨zs,hzs⟩:∃ zs:Nat→Int,∀ j,j<len*n→w.cell? ⟨a.block,a.off+j,none⟩=some (.int k (zs j))∧(Lit.int k (zs j)).wf=true :=
    ⟨fun j=>if h:j<len*n then Classical.choose (cell j h) else 0,fun j hj=>by
      have:=Classical.choose_spec (cell j hj)
      simp only[dif_pos hj]
      exact this⟩
   refine ⟨zs,len,?_,fun j hj=>(hzs j hj).2⟩
   rw[hcs]
   obtain ⟨b,o,sp'⟩:=a
   simp only at hsp
   subst hsp
   exact .slcT (o:=o) (fun j=>.int k (zs j)) (fun j hj=>(hzs j hj).1) (fun j hj=>rfl) (fun j hj=>.int _ _) hl (fun h=>by cases h) (.inr rfl)

end Go.Eng
end
section
namespace Go.Eng
def rF (f:Nat→Int):Nat→Int
 | 0=>0
 | i+1=>rF f i+f i
theorem gU {f g:Nat→Int}:∀ n,(∀ i,i<n→f i=g i)→rF f n=rF g n
 | 0,_=>rfl
 | n+1,h=>by
   show rF f n+f n=rF g n+g n
   rw[gU n (fun i hi=>h i (by omega)),h n (by omega)]
theorem xD {f g:Nat→Int}:∀ n,(∀ i,i<n→f i≤g i)→rF f n≤rF g n
 | 0,_=>Int.le_refl _
 | n+1,h=>by
   have:=xD n (fun i hi=>h i (by omega))
   have:=h n (by omega)
   show rF f n+f n≤rF g n+g n
   omega
theorem Ct (f g:Nat→Int):∀ n,rF (fun i=>f i+g i) n=rF f n+rF g n
 | 0=>rfl
 | n+1=>by
   show rF (fun i=>f i+g i) n+(f n+g n)=(rF f n+f n)+(rF g n+g n)
   rw[Ct f g n];omega
theorem zV {f:Nat→Int} {n:Nat} (h:∀ i,i<n→f i=0):rF f n=0:=by
 rw[gU (g:=fun _=>0) n h]
 clear h
 induction n with
 | zero=>rfl
 | succ n ih=>show rF (fun _=>0) n+0=0;rw[ih];rfl
theorem FX {f:Nat→Int}:∀ n,(∀ i,i<n→0≤f i)→0≤rF f n
 | 0,_=>Int.le_refl _
 | n+1,h=>by
   have:=FX n (fun i hi=>h i (by omega))
   have:=h n (by omega)
   show 0≤rF f n+f n
   omega
section
variable (N:Nat) (lo hi w:Nat→Int)
def jY (x:Int) (i:Nat):Bool:=decide (lo i≤x) && decide (x≤hi i)
def kG (S:List Int) (i:Nat):Bool:=S.any fun x=>jY lo hi x i
def Bi (S:List Int):Int:=rF (fun i=>if kG lo hi S i=true then w i else 0) N
def KC (old:Nat→Bool) (x:Int):Int:=rF (fun i=>if jY lo hi x i=true∧old i=false then w i else 0) N
def pV (K:Nat) (M:Int):Prop:=(∃ S:List Int,S.length≤K∧Bi N lo hi w S=M)∧∀ S:List Int,S.length≤K→Bi N lo hi w S≤M
end
section
variable {N:Nat} {lo hi w:Nat→Int}
theorem mJ {S:List Int} {i:Nat}:kG lo hi S i=true↔∃ x ∈ S,lo i≤x∧x≤hi i:=by
 unfold kG jY
 rw[List.any_eq_true]
 simp only[Bool.and_eq_true,decide_eq_true_eq]
theorem Kz (hw:∀ i,i<N→0≤w i) {S T:List Int} (h:∀ i,i<N→kG lo hi S i=true→kG lo hi T i=true):Bi N lo hi w S≤Bi N lo hi w T:=xD N (fun i hi'=>by
 by_cases c:kG lo hi S i=true
 · rw[if_pos c,if_pos (h i hi' c)];exact Int.le_refl _
 · rw[if_neg c]
   split
   · exact hw i hi'
   · exact Int.le_refl _)
theorem CN:Bi N lo hi w []=0:=zV (fun i _=>by rw[if_neg (by simp[kG])])
theorem Ae {S:List Int} {a x:Int} (ha:a ∈ S) (hS:∀ y ∈ S,y≤a) (hax:a≤x):Bi N lo hi w (S++[x])=Bi N lo hi w S+KC N lo hi w (jY lo hi a) x:=by
 unfold Bi KC
 rw[← Ct]
 refine gU N (fun i _=>?_)
 have e:kG lo hi (S++[x]) i=(kG lo hi S i || jY lo hi x i):=by unfold kG;simp
 rw[e]
 cases hx:jY lo hi x i with
 | false =>
   rw[Bool.or_false,if_neg (c:=_∧_) (by simp)]
   omega
 | true =>
   rw[Bool.or_true,if_pos rfl]
   cases hs:kG lo hi S i with
   | false =>
     have:jY lo hi a i=false:=by
      cases h:jY lo hi a i with
      | false=>rfl
      | true =>
        have:kG lo hi S i=true:=List.any_eq_true.2 ⟨a,ha,h⟩
        rw[this] at hs;cases hs
     rw[if_neg (by simp),if_pos ⟨rfl,this⟩];omega
   | true =>
     obtain ⟨y,y1,y2,y3⟩:=mJ.1 hs
     have hya:=hS y y1
     have:jY lo hi a i=true:=by
      unfold jY at hx ⊢
      rw[Bool.and_eq_true,decide_eq_true_eq,decide_eq_true_eq] at hx ⊢
      omega
     rw[if_pos rfl,if_neg (by rw[this];simp)];omega
theorem v7 (x:Int):Bi N lo hi w [x]=KC N lo hi w (fun _=>false) x:=gU N (fun i _=>by
 have e:kG lo hi [x] i=jY lo hi x i:=by unfold kG;simp
 rw[e]
 cases jY lo hi x i<;>simp)
end
structure Tb (N:Nat) (lo hi w:Nat→Int) (P:Nat→Int) (m K:Nat) (h:Int→Nat→Bool) (g:Int→Nat→Int) (b:Int→Nat→Int):Prop where
 at0:h (-1) 0=true∧g (-1) 0=0
 from_:∀ p n,h p n=true→(p=-1∧n=0)∨(0≤p∧p<m∧1≤n∧n≤K∧-1≤b p n∧b p n<p∧h (b p n) (n-1)=true∧g p n=g (b p n) (n-1)+KC N lo hi w (if b p n=-1 then fun _=>false else jY lo hi (P (b p n).toNat)) (P p.toNat))
 best:∀ (f:Int) (p n:Nat),-1≤f→f<p→p<m→n<K→h f n=true→h p (n+1)=true∧g f n+KC N lo hi w (if f=-1 then fun _=>false else jY lo hi (P f.toNat)) (P p)≤g p (n+1)
section
variable {N:Nat} {lo hi w:Nat→Int} {P:Nat→Int} {m K:Nat} {h:Int→Nat→Bool} {g:Int→Nat→Int} {b:Int→Nat→Int}
def Ah (P:Nat→Int) (b:Int→Nat→Int):Nat→Int→List Int
 | 0,_=>[]
 | n+1,p=>Ah P b n (b p (n+1))++[P p.toNat]
theorem lQ (P:Nat→Int) (b:Int→Nat→Int):∀ n p,(Ah P b n p).length=n
 | 0,_=>rfl
 | n+1,p=>by
   show (Ah P b n (b p (n+1))++[P p.toNat]).length=n+1
   rw[List.length_append,lQ P b n];rfl
theorem xG (t:Tb N lo hi w P m K h g b) {p:Int} (hp:h p 0=true):p=-1:=by
 rcases t.from_ p 0 hp with ⟨a,_⟩ | ⟨_,_,a,_⟩
 · exact a
 · omega
theorem F1 (t:Tb N lo hi w P m K h g b) (hP:∀ i j,i<j→j<m→P i<P j):∀ n p,h p n=true→Bi N lo hi w (Ah P b n p)=g p n∧(∀ x ∈ Ah P b n p,∃ i,i<m∧(i:Int)≤p∧x=P i)∧(Ah P b n p).Pairwise (· < ·)∧(1≤n→0≤p∧p<m)
 | 0,p,hp=>by
   have:=xG t hp
   subst this
   exact ⟨by rw[t.at0.2];exact CN,fun x hx=>(List.not_mem_nil hx).elim,List.Pairwise.nil,fun h=>by omega⟩
 | n + 1,p,hp=>by
   rcases t.from_ p (n+1) hp with ⟨_,a⟩ | ⟨p0,pm,_,_,b1,b2,hb,hg⟩
   · omega
   · rw[Nat.add_sub_cancel] at hb hg
     obtain ⟨i1,i2,i3,i4⟩:=F1 t hP n (b p (n+1)) hb
     have hall:∀ x ∈ Ah P b n (b p (n+1)),x<P p.toNat:=fun x hx=>by
      obtain ⟨i,h1,h2,rfl⟩:=i2 x hx
      exact hP i p.toNat (by omega) (by omega)
     refine ⟨?_,fun x hx=>?_,List.pairwise_append.2 ⟨i3,List.pairwise_singleton _ _,fun x hx y hy=>by rw[List.mem_singleton.1 hy];exact hall x hx⟩,fun _=>⟨p0,pm⟩⟩
     · show Bi N lo hi w (Ah P b n (b p (n+1))++[P p.toNat])=_
       rw[hg]
       cases n with
       | zero =>
         have:=xG t hb
         rw[this,if_pos rfl,t.at0.2,Int.zero_add]
         exact v7 _
       | succ n =>
         have hb0:=(i4 (by omega)).1
         rw[if_neg (by omega),← i1]
         refine Ae (a:=P (b p (n+1+1)).toNat) ?_ (fun y hy=>?_) ?_
         · show _ ∈ Ah P b n _++[P (b p (n+1+1)).toNat]
           simp
         · obtain ⟨i,h1,h2,rfl⟩:=i2 y hy
           by_cases e:i=(b p (n+1+1)).toNat
           · rw[e];exact Int.le_refl _
           · exact Int.le_of_lt (hP _ _ (by omega) (by have:=(i4 (by omega)).2;omega))
         · exact Int.le_of_lt (hP _ _ (by omega) (by omega))
     · rcases List.mem_append.1 hx with hx | hx
       · obtain ⟨i,h1,h2,h3⟩:=i2 x hx
         exact ⟨i,h1,by omega,h3⟩
       · exact ⟨p.toNat,by omega,by omega,List.mem_singleton.1 hx⟩
theorem Ih (t:Tb N lo hi w P m K h g b) (hP:∀ i j,i<j→j<m→P i<P j):∀ (js:List Nat) (p:Nat),(js++[p]).Pairwise (· < ·)→(∀ j ∈ js++[p],j<m)→js.length<K→h p (js.length+1)=true∧Bi N lo hi w ((js++[p]).map P)≤g p (js.length+1):=by
 intro js
 induction hl:js.length generalizing js with
 | zero =>
   intro p _ hm hK
   have:js=[]:=List.length_eq_zero_iff.1 hl
   subst this
   obtain ⟨a,c⟩:=t.best (-1) p 0 (by omega) (by omega) (hm p (by simp)) hK t.at0.1
   refine ⟨a,?_⟩
   rw[if_pos rfl,t.at0.2,Int.zero_add] at c
   have e2:(([]:List Nat)++[p]).map P=[P p]:=rfl
   rw[e2,v7]
   exact c
 | succ n ih =>
   intro p hp hm hK
   obtain ⟨ks,q,rfl⟩:∃ ks q,js=ks++[q]:=by
    have hne:js≠[]:=by intro e;rw[e] at hl;cases hl
    exact ⟨js.dropLast,js.getLast hne,(List.dropLast_concat_getLast hne).symm⟩
   have hkl:ks.length=n:=by simpa using hl
   obtain ⟨hp1,_,hp3⟩:=List.pairwise_append.1 hp
   obtain ⟨a,c⟩:=ih ks hkl q hp1 (fun j hj=>hm j (List.mem_append_left _ hj)) (by omega)
   have hqp:q<p:=hp3 q (by simp) p (by simp)
   have hpm:=hm p (by simp)
   obtain ⟨d,e⟩:=t.best (q:Int) p (n+1) (by omega) (by omega) hpm hK a
   refine ⟨d,?_⟩
   rw[if_neg (by omega),Int.toNat_natCast] at e
   have hw:=Ae (N:=N) (lo:=lo) (hi:=hi) (w:=w) (S:=(ks++[q]).map P) (a:=P q) (x:=P p) (by simp) (fun y hy=>by
    obtain ⟨j,hj,rfl⟩:=List.mem_map.1 hy
    rcases List.mem_append.1 hj with hj | hj
    · exact Int.le_of_lt (hP _ _ ((List.pairwise_append.1 hp1).2.2 j hj q (by simp)) (by omega))
    · rw[List.mem_singleton.1 hj];exact Int.le_refl _) (Int.le_of_lt (hP _ _ hqp hpm))
   rw[show ((ks++[q])++[p]).map P=(ks++[q]).map P++[P p] by simp,hw]
   omega
end

theorem yS {α:Type} (p:α→Prop) (v:α→Int):∀ L:List α,(∃ y ∈ L,p y)→∃ y ∈ L,p y∧∀ z ∈ L,p z→v y≤v z
 | [],h=>by obtain ⟨y,hy,_⟩:=h;cases hy
 | a :: L,h=>by
   by_cases hL:∃ y ∈ L,p y
   · obtain ⟨y,y1,y2,y3⟩:=yS p v L hL
     by_cases ha:p a∧v a≤v y
     · refine ⟨a,List.mem_cons_self,ha.1,fun z hz pz=>?_⟩
       rcases List.mem_cons.1 hz with rfl | hz
       · exact Int.le_refl _
       · exact Int.le_trans ha.2 (y3 z hz pz)
     · refine ⟨y,List.mem_cons_of_mem _ y1,y2,fun z hz pz=>?_⟩
       rcases List.mem_cons.1 hz with rfl | hz
       · by_cases h2:v z≤v y
         · exact (ha ⟨pz,h2⟩).elim
         · omega
       · exact y3 z hz pz
   · obtain ⟨y,hy,py⟩:=h
     rcases List.mem_cons.1 hy with rfl | hy
     · refine ⟨y,List.mem_cons_self,py,fun z hz pz=>?_⟩
       rcases List.mem_cons.1 hz with rfl | hz
       · exact Int.le_refl _
       · exact (hL ⟨z,hz,pz⟩).elim
     · exact (hL ⟨y,hy,py⟩).elim
theorem zt {α:Type} [DecidableEq α] (f:Int→α) (L:List α) (hL:L.Nodup):∀ S:List Int,(L.filter fun y=>S.any fun x=>decide (f x=y)).length≤S.length
 | []=>by simp
 | x :: S=>by
   have ih:=zt f L hL S
   have h1:∀ L:List α,L.Nodup→(L.filter fun y=>(x::S).any fun x=>decide (f x=y)).length≤(L.filter fun y=>S.any fun x=>decide (f x=y)).length+(if f x ∈ L then 1 else 0):=by
    intro L
    induction L with
    | nil=>intro _;simp
    | cons a L ihL =>
      intro hn
      rw[List.nodup_cons] at hn
      have:=ihL hn.2
      rw[List.filter_cons,List.filter_cons]
      by_cases ha:f x=a
      · have hna:f x ∉ L:=by rw[ha];exact hn.1
        rw[if_neg hna] at this
        rw[if_pos (show f x ∈ a::L by rw[ha];exact List.mem_cons_self)]
        split<;>split<;>(try simp only[List.length_cons])<;>omega
      · have e:((x::S).any fun x=>decide (f x=a))=S.any fun x=>decide (f x=a):=by
         rw[List.any_cons,show decide (f x=a)=false from decide_eq_false ha,Bool.false_or]
        rw[e]
        have e2:(if f x ∈ a::L then 1 else 0)=(if f x ∈ L then 1 else 0):=by
         by_cases hm:f x ∈ L
         · rw[if_pos hm,if_pos (List.mem_cons_of_mem _ hm)]
         · rw[if_neg hm,if_neg (by rw[List.mem_cons];exact fun h=>h.elim ha hm)]
        rw[e2]
        split<;>(try simp only[List.length_cons])<;>omega
   have:=h1 L hL
   rw[List.length_cons]
   split at this<;>omega
section
variable {N:Nat} {lo hi w:Nat→Int}
theorem GO {P:Nat→Int} {m:Nat} (hc:∀ i,i<N→lo i≤hi i→∃ j,j<m∧P j=lo i) (S:List Int):∃ js:List Nat,js.Pairwise (· < ·)∧(∀ j ∈ js,j<m)∧js.length≤S.length∧∀ i,i<N→kG lo hi S i=true→kG lo hi (js.map P) i=true:=by
 have hf:∀ x:Int,∃ j:Nat,(∃ j ∈ List.range m,P j≤x)→j ∈ List.range m∧P j≤x∧∀ z ∈ List.range m,P z≤x→-P j≤-P z:=fun x=>by
  by_cases h:∃ j ∈ List.range m,P j≤x
  · obtain ⟨j,a⟩:=yS (fun j=>P j≤x) (fun j=>-P j) (List.range m) h
    exact ⟨j,fun _=>a⟩
  · exact ⟨0,fun c=>(h c).elim⟩
 let f:Int→Nat:=fun x=>Classical.choose (hf x)
 have hf2:∀ x,(∃ j ∈ List.range m,P j≤x)→f x ∈ List.range m∧P (f x)≤x∧∀ z ∈ List.range m,P z≤x→-P (f x)≤-P z:=fun x=>Classical.choose_spec (hf x)
 refine ⟨(List.range m).filter fun y=>S.any fun x=>decide (f x=y),List.Pairwise.filter _ List.pairwise_lt_range,fun j hj=>List.mem_range.1 (List.mem_filter.1 hj).1,zt f _ List.nodup_range S,fun i hi' hs=>?_⟩
 obtain ⟨x,hx,x1,x2⟩:=mJ.1 hs
 obtain ⟨j,hj,hP⟩:=hc i hi' (by omega)
 obtain ⟨a1,a2,a3⟩:=hf2 x ⟨j,List.mem_range.2 hj,by omega⟩
 have:=a3 j (List.mem_range.2 hj) (by omega)
 refine mJ.2 ⟨P (f x),List.mem_map.2 ⟨f x,List.mem_filter.2 ⟨a1,List.any_eq_true.2 ⟨x,hx,by simp⟩⟩,rfl⟩,by omega,by omega⟩
theorem Ii {P:Nat→Int} {m K:Nat} {h:Int→Nat→Bool} {g:Int→Nat→Int} {b:Int→Nat→Int} (t:Tb N lo hi w P m K h g b) (hP:∀ i j,i<j→j<m→P i<P j) (hw:∀ i,i<N→0≤w i) (hc:∀ i,i<N→lo i≤hi i→∃ j,j<m∧P j=lo i) {p:Int} {n:Nat} (hp:h p n=true) (hn:n≤K) (hg:∀ q k,h q k=true→g q k≤g p n):pV N lo hi w K (g p n):=by
 refine ⟨⟨Ah P b n p,by rw[lQ];exact hn,(F1 t hP n p hp).1⟩,fun S hS=>?_⟩
 obtain ⟨js,j1,j2,j3,j4⟩:=GO (lo:=lo) (hi:=hi) hc S
 refine Int.le_trans (Kz hw j4) ?_
 rcases Nat.eq_zero_or_pos js.length with h0 | h0
 · rw[List.length_eq_zero_iff.1 h0]
   have:=hg (-1) 0 t.at0.1
   rw[t.at0.2] at this
   exact (CN (N:=N) (lo:=lo) (hi:=hi) (w:=w)).symm ▸ this
 · obtain ⟨ks,q,rfl⟩:∃ ks q,js=ks++[q]:=by
    have hne:js≠[]:=by intro e;rw[e] at h0;cases h0
    exact ⟨js.dropLast,js.getLast hne,(List.dropLast_concat_getLast hne).symm⟩
   rw[List.length_append,List.length_singleton] at j3
   obtain ⟨a,c⟩:=Ih t hP ks q j1 j2 (by omega)
   exact Int.le_trans c (hg _ _ a)
end
end Go.Eng
end
section
namespace Go.Eng
section
variable (N:Nat) (lo hi w:Nat→Int) (L:Nat→Int) (m:Nat)
end
section
variable {N:Nat} {lo hi w:Nat→Int} {L:Nat→Int} {m:Nat}
end
end Go.Eng
end
section
namespace Go.Eng
section
variable {N:Nat} {lo hi w lo' hi' w':Nat→Int}
theorem yG {K:Nat} {M M':Int} (h:pV N lo hi w K M) (h':pV N lo' hi' w K M') (hw:∀ i,i<N→0≤w i) (hlo:∀ i,i<N→lo' i≤lo i) (hhi:∀ i,i<N→hi i≤hi' i):M≤M':=by
 obtain ⟨⟨S,a,b⟩,_⟩:=h
 refine Int.le_trans ?_ (h'.2 S a)
 rw[← b]
 refine xD N (fun i hi2=>?_)
 by_cases c:kG lo hi S i=true
 · obtain ⟨x,x1,x2,x3⟩:=mJ.1 c
   have:=hlo i hi2
   have:=hhi i hi2
   rw[if_pos c,if_pos (mJ.2 ⟨x,x1,by omega,by omega⟩)]
   exact Int.le_refl _
 · rw[if_neg c]
   split
   · exact hw i hi2
   · exact Int.le_refl _
theorem vZ (hlo:∀ i,i<N→lo' i=lo i) (hhi:∀ i,i<N→hi' i=hi i) (hw:∀ i,i<N→w' i=w i) (S:List Int):Bi N lo' hi' w' S=Bi N lo hi w S:=gU N (fun i hi2=>by
 have e:kG lo' hi' S i=kG lo hi S i:=by
  unfold kG jY
  rw[hlo i hi2,hhi i hi2]
 rw[e,hw i hi2])
theorem wR {K:Nat} {M:Int} (hlo:∀ i,i<N→lo' i=lo i) (hhi:∀ i,i<N→hi' i=hi i) (hw:∀ i,i<N→w' i=w i) (h:pV N lo hi w K M):pV N lo' hi' w' K M:=by
 obtain ⟨⟨S,a,b⟩,c⟩:=h
 exact ⟨⟨S,a,by rw[vZ hlo hhi hw,b]⟩,fun T hT=>by rw[vZ hlo hhi hw];exact c T hT⟩
end
end Go.Eng
end
section
namespace Go.Eng
section
variable {N:Nat} {lo hi w:Nat→Int}
end

section
variable {N:Nat} {lo hi w:Nat→Int} {lam:Int}
end
end Go.Eng
end
section
namespace Go.Eng
structure MS where
 h:List Int→Bool
 g:List Int→Int
 c:Nat
 h2:List Int→Bool
 g2:List Int→Int
 c2:Nat
section
variable (a:Int→Int→Int)
def IU (p f n:Int) (s:MS):Bool:=!s.h [p,n+1] || decide (s.g [p,n+1]<s.g [f,n]+a f p)
def m9 (p f n:Int) (s:MS):MS :=
 if s.h [f,n]=true then
  if IU a p f n s=true then
   ⟨dE s.h [p,n+1] true,fB s.g [p,n+1] (s.g [f,n]+a f p),oV (s.h [p,n+1]) s.c,
    dE (dE s.h2 [p,n+1] false) [p,n+1] true,fB (fB s.g2 [p,n+1] 0) [p,n+1] f,oV (dE s.h2 [p,n+1] false [p,n+1]) (xY (s.h2 [p,n+1]) s.c2)⟩
  else s
 else s
def g8 (p f:Int):Nat→MS→MS
 | 0,s=>s
 | n+1,s=>m9 a p f n (g8 p f n s)
def lZ (K:Nat) (p:Int):Nat→MS→MS
 | 0,s=>s
 | k+1,s=>g8 a p ((k:Int)-1) K (lZ K p k s)
def gb (K:Nat):Nat→MS→MS
 | 0,s=>s
 | p+1,s=>lZ a K p (p+1) (gb K p s)
end
def cR:MS:=⟨dE (fun _=>false) [-1,0] true,fB (fun _=>0) [-1,0] 0,oV false 0,fun _=>false,fun _=>0,0⟩
section
variable {a:Int→Int→Int}
theorem vS {p f n:Int} {s:MS} {q m:Int} (h:¬(q=p∧m=n+1)):(m9 a p f n s).h [q,m]=s.h [q,m]∧(m9 a p f n s).g [q,m]=s.g [q,m]∧(m9 a p f n s).g2 [q,m]=s.g2 [q,m]:=by
 have hne:([q,m]:List Int)≠[p,n+1]:=by simpa using h
 unfold m9
 split
 · split
   · simp only[dE,fB,if_neg hne];exact ⟨trivial,trivial,trivial⟩
   · exact ⟨rfl,rfl,rfl⟩
 · exact ⟨rfl,rfl,rfl⟩
theorem ny {p f q m:Int} {s:MS}:∀ n:Nat,¬(q=p∧1≤m∧m≤n)→(g8 a p f n s).h [q,m]=s.h [q,m]∧(g8 a p f n s).g [q,m]=s.g [q,m]∧(g8 a p f n s).g2 [q,m]=s.g2 [q,m]
 | 0,_=>⟨rfl,rfl,rfl⟩
 | n+1,h=>by
   obtain ⟨i1,i2,i3⟩:=ny (p:=p) (f:=f) (q:=q) (m:=m) (s:=s) n (fun c=>h ⟨c.1,c.2.1,by omega⟩)
   obtain ⟨e1,e2,e3⟩:=vS (a:=a) (p:=p) (f:=f) (n:=n) (s:=g8 a p f n s) (q:=q) (m:=m) (fun c=>h ⟨c.1,by omega,by omega⟩)
   exact ⟨e1.trans i1,e2.trans i2,e3.trans i3⟩
theorem Ku {p f n:Int} {s:MS} (hf:f<p):(s.h [f,n]=false→(m9 a p f n s).h [p,n+1]=s.h [p,n+1]∧(m9 a p f n s).g [p,n+1]=s.g [p,n+1]∧(m9 a p f n s).g2 [p,n+1]=s.g2 [p,n+1]) ∧
 (s.h [f,n]=true→(m9 a p f n s).h [p,n+1]=true∧((m9 a p f n s).g [p,n+1]=s.g [f,n]+a f p∧(m9 a p f n s).g2 [p,n+1]=f∧(s.h [p,n+1]=true→s.g [p,n+1]<s.g [f,n]+a f p) ∨
   s.h [p,n+1]=true∧(m9 a p f n s).g [p,n+1]=s.g [p,n+1]∧(m9 a p f n s).g2 [p,n+1]=s.g2 [p,n+1]∧s.g [f,n]+a f p≤s.g [p,n+1])):=by
 constructor
 · intro h
   unfold m9
   rw[if_neg (by rw[h];decide)]
   exact ⟨rfl,rfl,rfl⟩
 · intro h
   unfold m9
   rw[if_pos h]
   split
   · rename_i hb
     refine ⟨by simp[dE],.inl ⟨by simp[fB],by simp[fB],fun h2=>?_⟩⟩
     unfold IU at hb
     rw[h2] at hb
     simpa using hb
   · rename_i hb
     have hb:IU a p f n s=false:=by simpa using hb
     unfold IU at hb
     rw[Bool.or_eq_false_iff,Bool.not_eq_false',decide_eq_false_iff_not] at hb
     exact ⟨hb.1,.inr ⟨hb.1,rfl,rfl,by omega⟩⟩
theorem FZ {p f:Int} {s:MS} (hf:f<p):∀ (K n:Nat),n<K→(s.h [f,n]=false→(g8 a p f K s).h [p,n+1]=s.h [p,n+1]∧(g8 a p f K s).g [p,n+1]=s.g [p,n+1]∧(g8 a p f K s).g2 [p,n+1]=s.g2 [p,n+1]) ∧
 (s.h [f,n]=true→(g8 a p f K s).h [p,n+1]=true∧((g8 a p f K s).g [p,n+1]=s.g [f,n]+a f p∧(g8 a p f K s).g2 [p,n+1]=f∧(s.h [p,n+1]=true→s.g [p,n+1]<s.g [f,n]+a f p) ∨
   s.h [p,n+1]=true∧(g8 a p f K s).g [p,n+1]=s.g [p,n+1]∧(g8 a p f K s).g2 [p,n+1]=s.g2 [p,n+1]∧s.g [f,n]+a f p≤s.g [p,n+1]))
 | 0,n,h=>by omega
 | K + 1,n,h=>by
   by_cases e:n=K
   · subst e
     obtain ⟨k1,k2⟩:=Ku (a:=a) (p:=p) (f:=f) (n:=n) (s:=g8 a p f n s) hf
     obtain ⟨o1,o2,o3⟩:=ny (a:=a) (p:=p) (f:=f) (q:=f) (m:=(n:Int)) (s:=s) n (fun c=>by omega)
     obtain ⟨u1,u2,u3⟩:=ny (a:=a) (p:=p) (f:=f) (q:=p) (m:=(n:Int)+1) (s:=s) n (fun c=>by omega)
     rw[o1,u1,u2,u3] at k1
     rw[o1,o2,u1,u2,u3] at k2
     exact ⟨k1,k2⟩
   · have ih:=FZ hf (s:=s) K n (by omega)
     obtain ⟨e1,e2,e3⟩:=vS (a:=a) (p:=p) (f:=f) (n:=K) (s:=g8 a p f K s) (q:=p) (m:=(n:Int)+1) (fun c=>by omega)
     show (_→(m9 a p f K (g8 a p f K s)).h _=_∧(m9 a p f K (g8 a p f K s)).g _=_∧(m9 a p f K (g8 a p f K s)).g2 _=_)∧(_→(m9 a p f K (g8 a p f K s)).h _=_∧((m9 a p f K (g8 a p f K s)).g _=_∧(m9 a p f K (g8 a p f K s)).g2 _=_∧_∨_∧(m9 a p f K (g8 a p f K s)).g _=_∧(m9 a p f K (g8 a p f K s)).g2 _=_∧_))
     rw[e1,e2,e3]
     exact ih
theorem nw {K:Nat} {p q m:Int} {s:MS} (h:¬(q=p∧1≤m∧m≤K)):∀ k:Nat,(lZ a K p k s).h [q,m]=s.h [q,m]∧(lZ a K p k s).g [q,m]=s.g [q,m]∧(lZ a K p k s).g2 [q,m]=s.g2 [q,m]
 | 0=>⟨rfl,rfl,rfl⟩
 | k+1=>by
   obtain ⟨i1,i2,i3⟩:=nw (s:=s) h k
   obtain ⟨e1,e2,e3⟩:=ny (a:=a) (p:=p) (f:=(k:Int)-1) (q:=q) (m:=m) (s:=lZ a K p k s) K h
   exact ⟨e1.trans i1,e2.trans i2,e3.trans i3⟩
theorem Ba {K:Nat} {p:Nat} {s:MS} {n:Nat} (hn:n<K) (h0:s.h [(p:Int),(n:Int)+1]=false):∀ k:Nat,k≤p+1 →
 ((lZ a K p k s).h [(p:Int),(n:Int)+1]=true→∃ f:Int,-1≤f∧f<(k:Int)-1∧s.h [f,n]=true∧(lZ a K p k s).g [(p:Int),(n:Int)+1]=s.g [f,n]+a f p∧(lZ a K p k s).g2 [(p:Int),(n:Int)+1]=f) ∧
 ∀ f:Int,-1≤f→f<(k:Int)-1→s.h [f,n]=true→(lZ a K p k s).h [(p:Int),(n:Int)+1]=true∧s.g [f,n]+a f p≤(lZ a K p k s).g [(p:Int),(n:Int)+1]
 | 0,_=>⟨(fun h=>by
    have h:s.h [(p:Int),(n:Int)+1]=true:=h
    rw[h0] at h;cases h),(fun f h1 h2=>by omega)⟩
 | k + 1,hk=>by
   obtain ⟨i1,i2⟩:=Ba hn h0 k (by omega)
   obtain ⟨o1,o2,_⟩:=nw (a:=a) (K:=K) (p:=p) (q:=(k:Int)-1) (m:=(n:Int)) (s:=s) (fun c=>by omega) k
   obtain ⟨k1,k2⟩:=FZ (a:=a) (p:=p) (f:=(k:Int)-1) (s:=lZ a K p k s) (by omega) K n hn
   rw[o1] at k1 k2
   rw[o2] at k2
   have hkk:((k+1:Nat):Int)-1=(k:Int):=by omega
   rw[hkk]
   cases hc:s.h [(k:Int)-1,(n:Int)] with
   | false =>
     obtain ⟨e1,e2,e3⟩:=k1 hc
     show ((g8 a p ((k:Int)-1) K (lZ a K p k s)).h _=true→∃ f:Int,_∧_∧_∧(g8 a p ((k:Int)-1) K (lZ a K p k s)).g _=_∧(g8 a p ((k:Int)-1) K (lZ a K p k s)).g2 _=_)∧∀ f:Int,_→_→_→(g8 a p ((k:Int)-1) K (lZ a K p k s)).h _=true∧_≤(g8 a p ((k:Int)-1) K (lZ a K p k s)).g _
     rw[e1,e2,e3]
     refine ⟨fun h=>?_,fun f f1 f2 f3=>?_⟩
     · obtain ⟨f,f1,f2,f3⟩:=i1 h
       exact ⟨f,f1,by omega,f3⟩
     · refine i2 f f1 ?_ f3
       have:f≠(k:Int)-1:=fun e=>by rw[e,hc] at f3;cases f3
       omega
   | true =>
     obtain ⟨e1,e2⟩:=k2 hc
     show ((g8 a p ((k:Int)-1) K (lZ a K p k s)).h _=true→∃ f:Int,_∧_∧_∧(g8 a p ((k:Int)-1) K (lZ a K p k s)).g _=_∧(g8 a p ((k:Int)-1) K (lZ a K p k s)).g2 _=_)∧∀ f:Int,_→_→_→(g8 a p ((k:Int)-1) K (lZ a K p k s)).h _=true∧_≤(g8 a p ((k:Int)-1) K (lZ a K p k s)).g _
     rw[e1]
     rcases e2 with ⟨g1,g2,g3⟩ | ⟨g0,g1,g2,g3⟩
     · rw[g1,g2]
       refine ⟨fun _=>⟨(k:Int)-1,by omega,by omega,hc,rfl,rfl⟩,fun f f1 f2 f3=>⟨rfl,?_⟩⟩
       by_cases e:f=(k:Int)-1
       · rw[e];exact Int.le_refl _
       · obtain ⟨j1,j2⟩:=i2 f f1 (by omega) f3
         have:=g3 j1
         omega
     · rw[g1,g2]
       refine ⟨fun _=>?_,fun f f1 f2 f3=>⟨rfl,?_⟩⟩
       · obtain ⟨f,f1,f2,f3⟩:=i1 g0
         exact ⟨f,f1,by omega,f3⟩
       · by_cases e:f=(k:Int)-1
         · rw[e];exact g3
         · exact (i2 f f1 (by omega) f3).2
theorem Bb {K:Nat}:∀ m:Nat,
 (∀ q n:Int,(gb a K m cR).h [q,n]=true→(q=-1∧n=0)∨(0≤q∧q<m∧1≤n∧n≤K))∧((gb a K m cR).h [-1,0]=true∧(gb a K m cR).g [-1,0]=0) ∧
 (∀ p n:Nat,p<m→n<K→(gb a K m cR).h [(p:Int),(n:Int)+1]=true→∃ f:Int,-1≤f∧f<p∧(gb a K m cR).h [f,n]=true∧(gb a K m cR).g [(p:Int),(n:Int)+1]=(gb a K m cR).g [f,n]+a f p∧(gb a K m cR).g2 [(p:Int),(n:Int)+1]=f) ∧
 ∀ (f:Int) (p n:Nat),p<m→n<K→-1≤f→f<p→(gb a K m cR).h [f,n]=true→(gb a K m cR).h [(p:Int),(n:Int)+1]=true∧(gb a K m cR).g [f,n]+a f p≤(gb a K m cR).g [(p:Int),(n:Int)+1]
 | 0=>by
   refine ⟨fun q n h=>?_,⟨rfl,rfl⟩,fun p n hp=>by omega,fun f p n hp=>by omega⟩
   have h:dE (fun _=>false) [-1,0] true [q,n]=true:=h
   unfold dE at h
   split at h
   · rename_i e;simp at e;exact .inl e
   · cases h
 | m + 1 => by
   obtain ⟨i1,i2,i3,i4⟩:=Bb (K:=K) m
   have oth:∀ q n:Int,q≠m→(gb a K (m+1) cR).h [q,n]=(gb a K m cR).h [q,n]∧(gb a K (m+1) cR).g [q,n]=(gb a K m cR).g [q,n]∧(gb a K (m+1) cR).g2 [q,n]=(gb a K m cR).g2 [q,n]:=fun q n hq=>nw (fun c=>hq c.1) (m+1)
   have abs:∀ n:Int,(gb a K m cR).h [(m:Int),n]=false:=fun n=>by
    cases h:(gb a K m cR).h [(m:Int),n] with
    | false=>rfl
    | true=>rcases i1 _ _ h with ⟨a,_⟩ | ⟨_,a,_⟩<;>omega
   refine ⟨fun q n h=>?_,?_,fun p n hp hn h=>?_,fun f p n hp hn f1 f2 h=>?_⟩
   · by_cases e:q=m
     · subst e
       by_cases hn:1≤n∧n≤K
       · exact .inr ⟨by omega,by omega,hn.1,hn.2⟩
       · have:=(nw (a:=a) (K:=K) (p:=m) (q:=m) (m:=n) (s:=gb a K m cR) (fun c=>hn c.2) (m+1)).1
         have h:(lZ a K m (m+1) (gb a K m cR)).h [(m:Int),n]=true:=h
         rw[this,abs] at h;cases h
     · rw[(oth q n e).1] at h
       rcases i1 q n h with h | h
       · exact .inl h
       · exact .inr (by omega)
   · rw[(oth (-1) 0 (by omega)).1,(oth (-1) 0 (by omega)).2.1];exact i2
   · by_cases e:p=m
     · subst e
       obtain ⟨f,f1,f2,f3,f4,f5⟩:=(Ba (a:=a) (K:=K) (p:=p) (s:=gb a K p cR) hn (abs _) (p+1) (Nat.le_refl _)).1 h
       refine ⟨f,f1,by omega,?_,?_,f5⟩
       · rw[(oth f n (by omega)).1];exact f3
       · rw[(oth f n (by omega)).2.1];exact f4
     · rw[(oth p _ (by omega)).1] at h
       obtain ⟨f,f1,f2,f3,f4,f5⟩:=i3 p n (by omega) hn h
       refine ⟨f,f1,f2,?_,?_,?_⟩
       · rw[(oth f n (by omega)).1];exact f3
       · rw[(oth f n (by omega)).2.1,(oth p _ (by omega)).2.1];exact f4
       · rw[(oth p _ (by omega)).2.2];exact f5
   · rw[(oth f n (by omega)).1] at h
     rw[(oth f n (by omega)).2.1]
     by_cases e:p=m
     · subst e
       exact (Ba (a:=a) (K:=K) (p:=p) (s:=gb a K p cR) hn (abs _) (p+1) (Nat.le_refl _)).2 f f1 (by omega) h
     · rw[(oth p _ (by omega)).1,(oth p _ (by omega)).2.1]
       exact i4 f p n (by omega) hn f1 f2 h
end
def xL (N:Nat) (lo hi w:Nat→Int) (P:Nat→Int) (f p:Int):Int:=KC N lo hi w (if f=-1 then fun _=>false else jY lo hi (P f.toNat)) (P p.toNat)
theorem Kt (N:Nat) (lo hi w:Nat→Int) (P:Nat→Int) (m K:Nat):Tb N lo hi w P m K (fun p n=>(gb (xL N lo hi w P) K m cR).h [p,n]) (fun p n=>(gb (xL N lo hi w P) K m cR).g [p,n]) (fun p n=>(gb (xL N lo hi w P) K m cR).g2 [p,n]):=by
 obtain ⟨i1,i2,i3,i4⟩:=Bb (a:=xL N lo hi w P) (K:=K) m
 refine ⟨i2,fun p n h=>?_,fun f p n f1 f2 hp hn h=>?_⟩
 · rcases i1 p n h with h | ⟨h1,h2,h3,h4⟩
   · exact .inl ⟨h.1,by omega⟩
   · obtain ⟨q,rfl⟩:=Int.eq_ofNat_of_zero_le h1
     obtain ⟨n,rfl⟩:∃ k,n=k+1:=⟨n-1,by omega⟩
     have h:(gb (xL N lo hi w P) K m cR).h [(q:Int),(n:Int)+1]=true:=h
     obtain ⟨f,f1,f2,f3,f4,f5⟩:=i3 q n (by omega) (by omega) h
     refine .inr ⟨h1,h2,by omega,by omega,?_⟩
     have e1:((n+1:Nat):Int)=(n:Int)+1:=rfl
     simp only[e1,Nat.add_sub_cancel]
     rw[f5]
     exact ⟨f1,f2,f3,f4⟩
 · exact i4 f p n hp hn f1 f2 h
theorem DV {N:Nat} {lo hi w:Nat→Int} {P:Nat→Int} (hw:∀ i,i<N→0≤w i) (f p:Int):0≤xL N lo hi w P f p∧xL N lo hi w P f p≤rF w N :=
 ⟨FX N (fun i hi2=>by have:=hw i hi2;split<;>omega),xD N (fun i hi2=>by have:=hw i hi2;split<;>omega)⟩
def Gk (W:Int) (s:MS):Prop:=∀ q n:Int,s.h [q,n]=true→0≤n∧0≤s.g [q,n]∧s.g [q,n]≤n*W
theorem NJ {a:Int→Int→Int} {W:Int} (ha:∀ f p,0≤a f p∧a f p≤W) {p f n:Int} {s:MS} (h:Gk W s):Gk W (m9 a p f n s):=by
 by_cases h1:s.h [f,n]=true
 · by_cases h2:IU a p f n s=true
   · unfold m9
     rw[if_pos h1,if_pos h2]
     intro q k hq
     dsimp only at hq ⊢
     by_cases e:([q,k]:List Int)=[p,n+1]
     · unfold fB
       rw[if_pos e]
       simp at e
       obtain ⟨k1,k2,k3⟩:=h f n h1
       have:=ha f p
       rw[e.2,Int.add_mul,Int.one_mul]
       omega
     · unfold dE at hq
       unfold fB
       rw[if_neg e] at hq ⊢
       exact h q k hq
   · unfold m9
     rw[if_pos h1,if_neg h2]
     exact h
 · unfold m9
   rw[if_neg h1]
   exact h
theorem Jg {a:Int→Int→Int} {W:Int} (ha:∀ f p,0≤a f p∧a f p≤W) {p f:Int} {s:MS} (h:Gk W s):∀ n,Gk W (g8 a p f n s)
 | 0=>h
 | n+1=>NJ ha (Jg ha h n)
theorem Jf {a:Int→Int→Int} {W:Int} (ha:∀ f p,0≤a f p∧a f p≤W) {K:Nat} {p:Int} {s:MS} (h:Gk W s):∀ k,Gk W (lZ a K p k s)
 | 0=>h
 | k+1=>Jg ha (Jf ha h k) K
theorem Jh {a:Int→Int→Int} {W:Int} (ha:∀ f p,0≤a f p∧a f p≤W) {K:Nat}:∀ m,Gk W (gb a K m cR)
 | 0 => fun q n h=>by
   have h':dE (fun _=>false) [-1,0] true [q,n]=true:=h
   unfold dE at h'
   split at h'
   · rename_i e
     simp at e
     rw[e.1,e.2]
     exact ⟨Int.le_refl _,Int.le_refl _,by rw[Int.zero_mul];exact Int.le_refl _⟩
   · cases h'
 | m+1=>Jf ha (Jh ha m) (m+1)
end Go.Eng
end
section
namespace Go.Eng
def ur (g:List Int→Int) (x y:Int×Int):Bool:=decide (g [y.1,y.2]<g [x.1,x.2]) || (decide (g [x.1,x.2]=g [y.1,y.2]) && (decide (x.2<y.2) || (decide (x.2=y.2) && decide (x.1<y.1))))
def Bz (g:List Int→Int):List (Int×Int)→Int×Int→Int×Int
 | [],b=>b
 | s::r,b=>Bz g r (if ur g s b=true then s else b)
section
variable {g:List Int→Int}
theorem ng {x y:Int×Int}:ur g x y=true↔g [y.1,y.2]<g [x.1,x.2]∨g [x.1,x.2]=g [y.1,y.2]∧(x.2<y.2∨x.2=y.2∧x.1<y.1):=by
 unfold ur
 simp only[Bool.or_eq_true,Bool.and_eq_true,decide_eq_true_eq]
theorem sA {x y:Int×Int}:ur g x y=false↔¬(g [y.1,y.2]<g [x.1,x.2]∨g [x.1,x.2]=g [y.1,y.2]∧(x.2<y.2∨x.2=y.2∧x.1<y.1)):=by
 rw[← ng];simp
theorem BA {x y:Int×Int} (h:ur g x y=false) (h':ur g y x=false):x=y:=by
 rw[sA] at h h'
 have h1:x.1=y.1∧x.2=y.2:=by omega
 exact Prod.ext h1.1 h1.2
theorem D8 (x:Int×Int):ur g x x=false:=by rw[sA];omega
theorem D9 {x y z:Int×Int} (h:ur g y x=false) (h':ur g z y=false):ur g z x=false:=by
 rw[sA] at h h' ⊢
 omega
theorem mh:∀ (ks:List (Int×Int)) (b:Int×Int),(Bz g ks b=b∨Bz g ks b ∈ ks)∧∀ s,s=b∨s ∈ ks→ur g s (Bz g ks b)=false
 | [],b=>⟨.inl rfl,fun s h=>by
   rcases h with rfl | h
   · exact D8 _
   · cases h⟩
 | k :: ks,b=>by
   show (Bz g ks (if ur g k b=true then k else b)=b∨Bz g ks (if ur g k b=true then k else b) ∈ k::ks)∧∀ s,s=b∨s ∈ k::ks→ur g s (Bz g ks (if ur g k b=true then k else b))=false
   by_cases c:ur g k b=true
   · rw[if_pos c]
     obtain ⟨i1,i2⟩:=mh ks k
     refine ⟨.inr ?_,fun s h=>?_⟩
     · rcases i1 with h | h
       · rw[h];exact List.mem_cons_self
       · exact List.mem_cons_of_mem _ h
     · rcases h with rfl | h
       · refine D9 (i2 k (.inl rfl)) ?_
         rw[ng] at c
         rw[sA]
         omega
       · rcases List.mem_cons.1 h with rfl | h
         · exact i2 _ (.inl rfl)
         · exact i2 _ (.inr h)
   · rw[if_neg c]
     obtain ⟨i1,i2⟩:=mh ks b
     refine ⟨?_,fun s h=>?_⟩
     · rcases i1 with h | h
       · exact .inl h
       · exact .inr (List.mem_cons_of_mem _ h)
     · rcases h with rfl | h
       · exact i2 _ (.inl rfl)
       · rcases List.mem_cons.1 h with rfl | h
         · exact D9 (i2 b (.inl rfl)) (by simpa using c)
         · exact i2 _ (.inr h)
end
def oL (b:Int→Nat→Int) (n:Nat) (p:Int):Nat→Int
 | 0=>p
 | j+1=>b (oL b n p j) (n-j)
theorem vX (b:Int→Nat→Int) (n:Nat) (p:Int):∀ j,oL b (n+1) p (j+1)=oL b n (b p (n+1)) j
 | 0=>rfl
 | j+1=>by
   show b (oL b (n+1) p (j+1)) (n+1-(j+1))=b (oL b n (b p (n+1)) j) (n-j)
   rw[vX b n p j,show n+1-(j+1)=n-j by omega]
theorem F6 (P:Nat→Int) (b:Int→Nat→Int):∀ (n:Nat) (p:Int) (i:Nat),i<n→(Ah P b n p).getD i 0=P (oL b n p (n-1-i)).toNat
 | 0,p,i,h=>by omega
 | n + 1,p,i,h=>by
   show (Ah P b n (b p (n+1))++[P p.toNat]).getD i 0=_
   have hl:=lQ P b n (b p (n+1))
   rw[List.getD_eq_getElem?_getD]
   by_cases e:i<n
   · rw[List.getElem?_append_left (by omega),← List.getD_eq_getElem?_getD,F6 P b n _ i e]
     rw[show n+1-1-i=(n-1-i)+1 by omega,vX]
   · obtain rfl:i=n:=by omega
     rw[List.getElem?_append_right (by omega),hl,Nat.sub_self,show i+1-1-i=0 by omega]
     rfl
theorem Be {N:Nat} {lo hi w:Nat→Int} {P:Nat→Int} {m K:Nat} {h:Int→Nat→Bool} {g:Int→Nat→Int} {b:Int→Nat→Int} (t:Tb N lo hi w P m K h g b) {p:Int} {n:Nat} (hp:h p n=true):∀ j,j≤n→h (oL b n p j) (n-j)=true∧(j<n→0≤oL b n p j∧oL b n p j<m)
 | 0,_=>⟨hp,fun hj=>by
   rcases t.from_ p n hp with ⟨_,a⟩ | ⟨a,a2,_⟩
   · omega
   · exact ⟨a,a2⟩⟩
 | j + 1,hj=>by
   obtain ⟨i1,_⟩:=Be t hp j (by omega)
   rcases t.from_ _ _ i1 with ⟨_,a⟩ | ⟨_,_,_,_,_,_,k,_⟩
   · omega
   · have k:h (oL b n p (j+1)) (n-j-1)=true:=k
     rw[show n-j-1=n-(j+1) by omega] at k
     refine ⟨k,fun hj2=>?_⟩
     rcases t.from_ _ _ k with ⟨_,a⟩ | ⟨a,a2,_⟩
     · omega
     · exact ⟨a,a2⟩
theorem F2 {N:Nat} {lo hi w:Nat→Int} {P:Nat→Int} {m K:Nat} {h:Int→Nat→Bool} {g:Int→Nat→Int} {b:Int→Nat→Int} (t:Tb N lo hi w P m K h g b) {p:Int} {n:Nat} (hp:h p n=true):oL b n p n=-1:=by
 have:=(Be t hp n (Nat.le_refl _)).1
 rw[Nat.sub_self] at this
 exact xG t this
end Go.Eng
end
section
namespace Go.Eng

def JR (b:Bool) (v:AV):Bool :=
 match v with
 | .bool c=>cond b c (cond c false true)
 | _=>false
theorem BU (b:Bool) (v:AV):JR b v=Ls b v:=by
 cases v with
 | bool c=>cases b<;>cases c<;>rfl
 | _=>rfl
noncomputable def bj.oD (L:bj) (cx:Cx) (callR:bE) (bl:g9) (rg:sk) (k n:Nat) (kv:AV×AV) (fr:aM) (H:aa):Tr (aM×aa) :=
 (iS cx.P cx.nt cx.call callR L.ops1 L.t1 (ru cx.nt fr (some L.nx) (.tup [.bool true,kv.1,kv.2],none)) H).bind fun x =>
   cond (JR true (lW x.1 L.mo).1) (cond (lx k (lW x.1 L.it).1)
    ((iS cx.P cx.nt cx.call callR L.ops2 L.t2 (ru cx.nt x.1 (some L.en) (.tup [kv.1,kv.2],none)) x.2).bind fun y =>
      (aX cx callR bl rg L.rest y.1 y.2).bind fun z=>match z with
        | (.normal,fr,H)=>cond (lx k (lW (gM fr L.km) L.it).1) (.ok (gM fr L.km,lS n (strip (gM fr L.km)) H)) .bad
        | _=>.bad) .bad) .bad
theorem bj.DA {L:bj} {cx:Cx} {callR:bE} {bl:g9} {rg:sk} (hC:callR.Ok cx.call) (hB:bl.Ok cx L.rest) (hR:rg.Ok cx L.rest) {k n:Nat} {kv:AV×AV} {fr:aM} {H:aa} {y:aM×aa} (h:(L.oD cx callR bl rg k n kv fr H).run=some y) :
 L.round cx k n kv (strip fr) H=some (strip y.1,y.2):=by
 unfold bj.oD at h
 obtain ⟨x,h1,h⟩:=Tr.bind_some h
 obtain ⟨b1,h⟩:=Tr.aP h
 obtain ⟨b2,h⟩:=Tr.aP h
 obtain ⟨z,h2,h⟩:=Tr.bind_some h
 obtain ⟨u,h3,h⟩:=Tr.bind_some h
 have h1:=fM hC _ _ _ _ h1
 have h2:=fM hC _ _ _ _ h2
 have h3:=my hC L.rest hB hR _ _ _ h3
 rw[mZ] at h1 h2
 rw[BU,fv] at b1
 rw[fv] at b2
 unfold bj.round
 rw[cj,h1]
 dsimp only
 rw[b1,b2,Bool.and_self,if_pos rfl,cj,h2]
 dsimp only
 rw[dr,h3]
 obtain ⟨e,f,G⟩:=u
 cases e with
 | normal =>
   dsimp only at h
   obtain ⟨b3,h⟩:=Tr.aP h
   rw[fv,fb] at b3
   show (if lx k (br (bO (strip f) L.km) L.it) then _ else none)=_
   rw[if_pos b3,← Tr.ab h,fb]
 | _=>exact (Tr.ae h).elim
noncomputable def bj.yQ (L:bj) (cx:Cx) (callR:bE) (fr:aM) (H:aa):Tr (aM×aa) :=
 (iS cx.P cx.nt cx.call callR L.ops1 L.t1 (ru cx.nt fr (some L.nx) (.tup [.bool false],none)) H).bind fun x=>cond (JR false (lW x.1 L.mo).1) (.ok x) .bad
theorem bj.EV {L:bj} {cx:Cx} {callR:bE} (hC:callR.Ok cx.call) {fr:aM} {H:aa} {y:aM×aa} (h:(L.yQ cx callR fr H).run=some y):L.last cx (strip fr) H=some (strip y.1,y.2):=by
 unfold bj.yQ at h
 obtain ⟨x,h1,h⟩:=Tr.bind_some h
 obtain ⟨b1,h⟩:=Tr.aP h
 have h1:=fM hC _ _ _ _ h1
 rw[mZ] at h1
 rw[BU,fv] at b1
 unfold bj.last
 rw[cj,h1]
 dsimp only
 rw[if_pos b1,← Tr.ab h]
noncomputable def bD.A0 (S:bD) (cx:Cx) (callR:bE) (fr:aM) (H:aa):Tr (aM×aa):=iS cx.P cx.nt cx.call callR S.ops0 S.pre fr H
theorem bD.r8 {S:bD} {cx:Cx} {callR:bE} (hC:callR.Ok cx.call) {fr:aM} {H:aa} {y:aM×aa} (h:(S.A0 cx callR fr H).run=some y):cO cx.P cx.nt cx.call S.ops0 S.pre (strip fr) H=some (strip y.1,y.2):=by
 rw[cj]
 exact fM hC _ _ _ _ h
end Go.Eng
end
