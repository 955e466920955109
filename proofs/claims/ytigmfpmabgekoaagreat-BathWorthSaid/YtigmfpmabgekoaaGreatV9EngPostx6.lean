/- The engine: from a call's contract to the statement of a law: what was there when the call began is as it was. -/
import Derived.Test.YtigmfpmabgekoaaGreatV9EngOrax2
import Derived.ProofKit
import Derived.Test.YtigmfpmabgekoaaGreatV9EngKtBx5
set_option linter.unusedVariables false
set_option linter.unusedSimpArgs false
section
namespace Go.Eng
open Go.ChangeShapes Go.RowKit

theorem vn {H:Type} {enc:TypeId×Value→H} {P:Program} {f:Func} {s:ChangeSpec} {apart fresh handsOn again:Bool} {W W':World} {args:Array Value} {v:Value} {ds gs:List (DataW H)} {before pa pv:List MemPlace}
 (hW:DataW.Whole enc P f.params.toList s.vars apart W args.toList ds gs before) (hb:Below W.heap.size W W')
 (hres:∀ (b:Nat) (sp:Nat→Bool) (hd:Bool),DataW.TrodAll enc P W' b sp hd f.resultTypes.toList (v.resultList f.resultTypes.size) (s.fn H (ds++gs)).results [])
 (hargs:∀ sp:Nat→Bool,(∀ p ∈ before,sp p.block=true)→DataW.TrodAll enc P W' 0 sp true f.params.toList args.toList (s.fn H (ds++gs)).args pa)
 (hvars:∀ sp:Nat→Bool,(∀ p ∈ before,sp p.block=true)→DataW.TrodVars enc P W' sp s.vars (s.fn H (ds++gs)).vars pv) (hps:before=pa++pv)
 (hok:∀ (j:Nat) (t:TypeId) (r:Value),f.resultTypes[j]?=some t→(v.resultList f.resultTypes.size)[j]?=some r→Value.okWide P W' .any 0 t r) :
 s.post enc P f apart fresh handsOn again W args v W':=by
 have old:∀ p ∈ before,p.block<W.heap.size:=fun p hp=>hW.lt p hp
 have hz:=hW
 obtain ⟨_,_,_,_,_,hz,hn⟩:=hz
 refine ⟨ds,gs,before,[],pa,pv,hW,hres _ _ _,hargs _ (fun p hp=>by simpa using old p hp),hvars _ (fun p hp=>by simpa using old p hp),hb.frame _,fun _=>⟨hok,_,_,[]++pa++pv,⟨[]++pa,pv,trodAll_append (hargs _ (fun _ _=>rfl)) (hres _ _ _),hvars _ (fun _ _=>rfl),rfl,?_,?_⟩,?_⟩⟩
 · intro b off hp
   have hp':MemPlace.cell b off ∈ before:=by rw[hps];simpa using hp
   rw[hb.frozen (old _ hp')]
   exact hz b off hp'
 · intro ha
   have:=hn ha
   rw[hps] at this
   simpa using this
 · intro p hp _
   rw[hps]
   simpa using hp

end Go.Eng
end
section
namespace Go.Eng
open Go.ChangeShapes

def Pw (w:World):aJ:=fun b o=>w.cell? ⟨b,o,none⟩
theorem a8.all (w:World):a8 (Pw w) Mu.no [⟨true,[]⟩] w where
 pers:=fun b o v h=>h
 live:=fun d i v B hg hB=>by
  cases d<;>simp[au,aq] at hg<;>exact absurd hg.2.symm hB
 apart:=fun d i v B d' i' v' B' b o t o' t' hg hB hg' hB' hm hm'=>by cases hm
 dom:=fun d i v t hm=>by cases hm

theorem De {P:Program} {call:aU} (hC:bR P call) {f:FuncId} {args:List AV} {x:Bool} {H':aa} (h:call (.fn f) args [⟨true,[]⟩]=some (.bool x,H')) {cargs:Array Value} {w:World} (hA:gD (Pw w) Mu.no args cargs) :
 Calls P f cargs w (fun e w'=>e=.returned (.bool x)∧Go.RowKit.Below w.heap.size w w'):=by
 have:=(hC (.fn f) args _ (.bool x) H' h (by simp) _ _ w cargs (a8.all w) hA).2
 refine (callsIn_wide.1 this).mono ?_
 rintro e w' ⟨cv,rfl,_,p',M',hE,hv⟩
 cases hv
 exact ⟨rfl,(hE.stay.weaken (fun b _ _ d i v B _ _ _ o t hm=>by cases hm)).below⟩

def ma (k:IntKind) (P:Program) (t:TypeId) (n:Nat):Prop:=∀ (H:Type) (enc:TypeId×Value→H) (w:World) (base:Nat) (sp:Nat→Bool) (held:Bool) (fuel:Nat) (cs:List Value) (x:DataW H×List MemPlace),
 DataW.trod enc P w base sp held fuel t cs=some x→cs.length=n∧∀ j,j<n→∃ z:Int,cs[j]?=some (.int k z)∧(Lit.int k z).wf=true
abbrev Ej (P:Program) (t:TypeId) (n:Nat):Prop:=ma .i64 P t n
theorem yE {P:Program} {t:TypeId} {k:IntKind} (ht:P.underlying t=some (.int k)):ma k P t 1:=by
 intro H enc w base sp held fuel cs x h
 obtain ⟨n,rfl,_,hw⟩:=DataW.trod_int ht h
 refine ⟨rfl,fun j hj=>?_⟩
 obtain rfl:j=0:=by omega
 exact ⟨n,rfl,hw⟩
theorem xn {P:Program} {k:IntKind} {t:TypeId} {f0 f1:Field} {n0 n1:Nat} (ht:P.underlying t=some (.struct #[f0,f1])) (h0:ma k P f0.type n0) (h1:ma k P f1.type n1) (o0:f0.offset=0) (o1:f1.offset=n0) (c0:P.cellsOf f0.type=n0) (c1:P.cellsOf f1.type=n1) (c:P.cellsOf t=n0+n1):ma k P t (n0+n1):=by
 intro H enc w base sp held fuel cs x h
 obtain ⟨y0,y1,n,_,hl,g0,g1⟩:=trod_struct2 ht h
 obtain ⟨k0,k1⟩:=h0 _ _ _ _ _ _ _ _ _ g0
 obtain ⟨m0,m1⟩:=h1 _ _ _ _ _ _ _ _ _ g1
 refine ⟨by rw[hl,c],fun j hj=>?_⟩
 by_cases hlt:j<n0
 · obtain ⟨z,hz,hw⟩:=k1 j hlt
   refine ⟨z,?_,hw⟩
   rw[o0,c0] at hz
   simpa[List.getElem?_take,hlt] using hz
 · obtain ⟨z,hz,hw⟩:=m1 (j-n0) (by omega)
   refine ⟨z,?_,hw⟩
   rw[o1,c1] at hz
   have hlt2:j-n0<n1:=by omega
   simpa[List.getElem?_take,hlt2,List.getElem?_drop,show n0+(j-n0)=j by omega] using hz

theorem sV {w:World} {a:Addr}:∀ (l:List Nat) (cs:List Value),(l.mapM fun i=>w.cell? (a.add i))=some cs→∀ (j i:Nat),l[j]?=some i→∃ v,cs[j]?=some v∧w.cell? (a.add i)=some v
 | [],cs,h,j,i,hi=>by simp at hi
 | x::l,cs,h,j,i,hi=>by
   simp only[List.mapM_cons,Option.bind_eq_bind,Option.bind_eq_some_iff,Option.pure_def,Option.some.injEq] at h
   obtain ⟨v,hv,r,hr,rfl⟩:=h
   cases j with
   | zero=>simp at hi;subst hi;exact ⟨v,rfl,hv⟩
   | succ j=>exact sV l r hr j i (by simpa using hi)

theorem Bl {P:Program} {k:IntKind} {t e:TypeId} {n:Nat} (ht:P.underlying t=some (.slice e)) (he:ma k P e n) (hn:0<n) (hc:P.cellsOf e=n) {H:Type} {enc:TypeId×Value→H} {w:World} {base:Nat} {sp:Nat→Bool} {held:Bool} {fuel:Nat} {v:Value} {x:DataW H×List MemPlace}
 (hspot:∀ a l c,v=.slice (some a) l c→a.spot=none) (h:DataW.trod enc P w base sp held fuel t [v]=some x) :
 (v=.slice none 0 0)∨∃ (zs:Nat→Int) (len:Nat),ai (Pw w) Mu.no (.slcT none (.F (fun j=>.int k (zs j)) (len*n)) n len false) v∧∀ j,j<len*n→(Lit.int k (zs j)).wf=true:=by
 rcases DataW.trod_slice ht h with ⟨h0,_⟩ | ⟨a,len,cap,elems,rest,m,_,hcs,_,_,hl,_,hlen,hel,_,_⟩
 · left;simpa using h0
 · right
   simp only[List.cons.injEq,and_true] at hcs
   have hsp:=hspot a len cap hcs
   have cell:∀ j,j<len*n→∃ z:Int,w.cell? ⟨a.block,a.off+j,none⟩=some (.int k z)∧(Lit.int k z).wf=true:=by
    intro j hj
    have hi:j / n<len:=by rw[Nat.div_lt_iff_lt_mul hn];exact hj
    have:=hel (j / n) hi
    have hex:elems[j / n]?≠none:=by simp;omega
    rw[← this] at hex
    cases hcl:w.cells? base (a.add (j / n*P.cellsOf e)) (P.cellsOf e) with
    | none=>rw[hcl] at hex;simp at hex
    | some cs =>
      rw[hcl] at hex
      cases hy:DataW.trod enc P w base sp held m e cs with
      | none=>simp[hy] at hex
      | some y =>
        obtain ⟨k0,k1⟩:=he _ _ _ _ _ _ _ _ _ hy
        obtain ⟨z,hz,hw⟩:=k1 (j % n) (Nat.mod_lt _ hn)
        unfold World.cells? at hcl
        split at hcl
        · obtain ⟨u,hu,hcu⟩:=sV _ _ hcl (j % n) (j % n) (by rw[hc];simp[Nat.mod_lt _ hn])
          rw[hz] at hu
          have hu:=Option.some.inj hu
          subst hu
          refine ⟨z,?_,hw⟩
          rw[hc] at hcu
          have e1:(a.add (j / n*n)).add (j % n)=⟨a.block,a.off+j,none⟩:=by
           have hd:=Nat.div_add_mod j n
           have hd2:j / n*n+j % n=j:=by rw[Nat.mul_comm];exact hd
           cases a
           simp only at hsp
           subst hsp
           have ad:∀ (b o i:Nat),Addr.add ⟨b,o,none⟩ i=⟨b,o+i,none⟩:=fun b o i=>by
            unfold Addr.add
            split
            · rename_i h0;subst h0;rfl
            · rfl
           rw[ad,ad,Nat.add_assoc,hd2]
          rw[← e1];exact hcu
        · simp at hcl
   obtain ⟨zs,hzs⟩:∃ zs:Nat→Int,∀ j,j<len*n→w.cell? ⟨a.block,a.off+j,none⟩=some (.int k (zs j))∧(Lit.int k (zs j)).wf=true :=
    ⟨fun j=>if h:j<len*n then Classical.choose (cell j h) else 0,fun j hj=>by
      have:=Classical.choose_spec (cell j hj)
      simp only[dif_pos hj]
      exact this⟩
   refine ⟨zs,len,?_,fun j hj=>(hzs j hj).2⟩
   rw[hcs]
   obtain ⟨b,o,sp'⟩:=a
   simp only at hsp
   subst hsp
   exact .slcT (o:=o) (fun j=>.int k (zs j)) (fun j hj=>(hzs j hj).1) (fun j hj=>rfl) (fun j hj=>.int _ _) hl (fun h=>by cases h) (.inr rfl)

end Go.Eng
end
section
namespace Go.Eng
def gG (f:Nat→Int):Nat→Int
 | 0=>0
 | i+1=>gG f i+f i
theorem fv {f g:Nat→Int}:∀ n,(∀ i,i<n→f i=g i)→gG f n=gG g n
 | 0,_=>rfl
 | n+1,h=>by
   show gG f n+f n=gG g n+g n
   rw[fv n (fun i hi=>h i (by omega)),h n (by omega)]
theorem kd {f g:Nat→Int}:∀ n,(∀ i,i<n→f i≤g i)→gG f n≤gG g n
 | 0,_=>Int.le_refl _
 | n+1,h=>by
   have:=kd n (fun i hi=>h i (by omega))
   have:=h n (by omega)
   show gG f n+f n≤gG g n+g n
   omega
theorem jN (f g:Nat→Int):∀ n,gG (fun i=>f i+g i) n=gG f n+gG g n
 | 0=>rfl
 | n+1=>by
   show gG (fun i=>f i+g i) n+(f n+g n)=(gG f n+f n)+(gG g n+g n)
   rw[jN f g n];omega
theorem mY {f:Nat→Int} {n:Nat} (h:∀ i,i<n→f i=0):gG f n=0:=by
 rw[fv (g:=fun _=>0) n h]
 clear h
 induction n with
 | zero=>rfl
 | succ n ih=>show gG (fun _=>0) n+0=0;rw[ih];rfl
theorem xY {f:Nat→Int}:∀ n,(∀ i,i<n→0≤f i)→0≤gG f n
 | 0,_=>Int.le_refl _
 | n+1,h=>by
   have:=xY n (fun i hi=>h i (by omega))
   have:=h n (by omega)
   show 0≤gG f n+f n
   omega
section
variable (N:Nat) (lo hi w:Nat→Int)
def bH (x:Int) (i:Nat):Bool:=decide (lo i≤x) && decide (x≤hi i)
def df (S:List Int) (i:Nat):Bool:=S.any fun x=>bH lo hi x i
def lZ (S:List Int):Int:=gG (fun i=>if df lo hi S i=true then w i else 0) N
def K6 (old:Nat→Bool) (x:Int):Int:=gG (fun i=>if bH lo hi x i=true∧old i=false then w i else 0) N
def fL (K:Nat) (M:Int):Prop:=(∃ S:List Int,S.length≤K∧lZ N lo hi w S=M)∧∀ S:List Int,S.length≤K→lZ N lo hi w S≤M
end
section
variable {N:Nat} {lo hi w:Nat→Int}
theorem tE {K:Nat} {M M':Int} (h:fL N lo hi w K M) (h':fL N lo hi w K M'):M=M':=by
 obtain ⟨⟨S,a,b⟩,c⟩:=h
 obtain ⟨⟨S',a',b'⟩,c'⟩:=h'
 have:=c S' a'
 have:=c' S a
 omega
theorem eB {S:List Int} {i:Nat}:df lo hi S i=true↔∃ x ∈ S,lo i≤x∧x≤hi i:=by
 unfold df bH
 rw[List.any_eq_true]
 simp only[Bool.and_eq_true,decide_eq_true_eq]
theorem Gq (hw:∀ i,i<N→0≤w i) {S T:List Int} (h:∀ i,i<N→df lo hi S i=true→df lo hi T i=true):lZ N lo hi w S≤lZ N lo hi w T:=kd N (fun i hi'=>by
 by_cases c:df lo hi S i=true
 · rw[if_pos c,if_pos (h i hi' c)];exact Int.le_refl _
 · rw[if_neg c]
   split
   · exact hw i hi'
   · exact Int.le_refl _)
theorem sB:lZ N lo hi w []=0:=mY (fun i _=>by rw[if_neg (by simp[df])])
theorem Av {S:List Int} {a x:Int} (ha:a ∈ S) (hS:∀ y ∈ S,y≤a) (hax:a≤x):lZ N lo hi w (S++[x])=lZ N lo hi w S+K6 N lo hi w (bH lo hi a) x:=by
 unfold lZ K6
 rw[← jN]
 refine fv N (fun i _=>?_)
 have e:df lo hi (S++[x]) i=(df lo hi S i || bH lo hi x i):=by unfold df;simp
 rw[e]
 cases hx:bH lo hi x i with
 | false =>
   rw[Bool.or_false,if_neg (c:=_∧_) (by simp)]
   omega
 | true =>
   rw[Bool.or_true,if_pos rfl]
   cases hs:df lo hi S i with
   | false =>
     have:bH lo hi a i=false:=by
      cases h:bH lo hi a i with
      | false=>rfl
      | true =>
        have:df lo hi S i=true:=List.any_eq_true.2 ⟨a,ha,h⟩
        rw[this] at hs;cases hs
     rw[if_neg (by simp),if_pos ⟨rfl,this⟩];omega
   | true =>
     obtain ⟨y,y1,y2,y3⟩:=eB.1 hs
     have hya:=hS y y1
     have:bH lo hi a i=true:=by
      unfold bH at hx ⊢
      rw[Bool.and_eq_true,decide_eq_true_eq,decide_eq_true_eq] at hx ⊢
      omega
     rw[if_pos rfl,if_neg (by rw[this];simp)];omega
theorem wO (x:Int):lZ N lo hi w [x]=K6 N lo hi w (fun _=>false) x:=fv N (fun i _=>by
 have e:df lo hi [x] i=bH lo hi x i:=by unfold df;simp
 rw[e]
 cases bH lo hi x i<;>simp)
end
structure Tb (N:Nat) (lo hi w:Nat→Int) (P:Nat→Int) (m K:Nat) (h:Int→Nat→Bool) (g:Int→Nat→Int) (b:Int→Nat→Int):Prop where
 at0:h (-1) 0=true∧g (-1) 0=0
 from_:∀ p n,h p n=true→(p=-1∧n=0)∨(0≤p∧p<m∧1≤n∧n≤K∧-1≤b p n∧b p n<p∧h (b p n) (n-1)=true∧g p n=g (b p n) (n-1)+K6 N lo hi w (if b p n=-1 then fun _=>false else bH lo hi (P (b p n).toNat)) (P p.toNat))
 best:∀ (f:Int) (p n:Nat),-1≤f→f<p→p<m→n<K→h f n=true→h p (n+1)=true∧g f n+K6 N lo hi w (if f=-1 then fun _=>false else bH lo hi (P f.toNat)) (P p)≤g p (n+1)
section
variable {N:Nat} {lo hi w:Nat→Int} {P:Nat→Int} {m K:Nat} {h:Int→Nat→Bool} {g:Int→Nat→Int} {b:Int→Nat→Int}
def Ay (P:Nat→Int) (b:Int→Nat→Int):Nat→Int→List Int
 | 0,_=>[]
 | n+1,p=>Ay P b n (b p (n+1))++[P p.toNat]
theorem lL (P:Nat→Int) (b:Int→Nat→Int):∀ n p,(Ay P b n p).length=n
 | 0,_=>rfl
 | n+1,p=>by
   show (Ay P b n (b p (n+1))++[P p.toNat]).length=n+1
   rw[List.length_append,lL P b n];rfl
theorem ya (t:Tb N lo hi w P m K h g b) {p:Int} (hp:h p 0=true):p=-1:=by
 rcases t.from_ p 0 hp with ⟨a,_⟩ | ⟨_,_,a,_⟩
 · exact a
 · omega
theorem Gj (t:Tb N lo hi w P m K h g b) (hP:∀ i j,i<j→j<m→P i<P j):∀ n p,h p n=true→lZ N lo hi w (Ay P b n p)=g p n∧(∀ x ∈ Ay P b n p,∃ i,i<m∧(i:Int)≤p∧x=P i)∧(Ay P b n p).Pairwise (· < ·)∧(1≤n→0≤p∧p<m)
 | 0,p,hp=>by
   have:=ya t hp
   subst this
   exact ⟨by rw[t.at0.2];exact sB,fun x hx=>(List.not_mem_nil hx).elim,List.Pairwise.nil,fun h=>by omega⟩
 | n + 1,p,hp=>by
   rcases t.from_ p (n+1) hp with ⟨_,a⟩ | ⟨p0,pm,_,_,b1,b2,hb,hg⟩
   · omega
   · rw[Nat.add_sub_cancel] at hb hg
     obtain ⟨i1,i2,i3,i4⟩:=Gj t hP n (b p (n+1)) hb
     have hall:∀ x ∈ Ay P b n (b p (n+1)),x<P p.toNat:=fun x hx=>by
      obtain ⟨i,h1,h2,rfl⟩:=i2 x hx
      exact hP i p.toNat (by omega) (by omega)
     refine ⟨?_,fun x hx=>?_,List.pairwise_append.2 ⟨i3,List.pairwise_singleton _ _,fun x hx y hy=>by rw[List.mem_singleton.1 hy];exact hall x hx⟩,fun _=>⟨p0,pm⟩⟩
     · show lZ N lo hi w (Ay P b n (b p (n+1))++[P p.toNat])=_
       rw[hg]
       cases n with
       | zero =>
         have:=ya t hb
         rw[this,if_pos rfl,t.at0.2,Int.zero_add]
         exact wO _
       | succ n =>
         have hb0:=(i4 (by omega)).1
         rw[if_neg (by omega),← i1]
         refine Av (a:=P (b p (n+1+1)).toNat) ?_ (fun y hy=>?_) ?_
         · show _ ∈ Ay P b n _++[P (b p (n+1+1)).toNat]
           simp
         · obtain ⟨i,h1,h2,rfl⟩:=i2 y hy
           by_cases e:i=(b p (n+1+1)).toNat
           · rw[e];exact Int.le_refl _
           · exact Int.le_of_lt (hP _ _ (by omega) (by have:=(i4 (by omega)).2;omega))
         · exact Int.le_of_lt (hP _ _ (by omega) (by omega))
     · rcases List.mem_append.1 hx with hx | hx
       · obtain ⟨i,h1,h2,h3⟩:=i2 x hx
         exact ⟨i,h1,by omega,h3⟩
       · exact ⟨p.toNat,by omega,by omega,List.mem_singleton.1 hx⟩
theorem Iz (t:Tb N lo hi w P m K h g b) (hP:∀ i j,i<j→j<m→P i<P j):∀ (js:List Nat) (p:Nat),(js++[p]).Pairwise (· < ·)→(∀ j ∈ js++[p],j<m)→js.length<K→h p (js.length+1)=true∧lZ N lo hi w ((js++[p]).map P)≤g p (js.length+1):=by
 intro js
 induction hl:js.length generalizing js with
 | zero =>
   intro p _ hm hK
   have:js=[]:=List.length_eq_zero_iff.1 hl
   subst this
   obtain ⟨a,c⟩:=t.best (-1) p 0 (by omega) (by omega) (hm p (by simp)) hK t.at0.1
   refine ⟨a,?_⟩
   rw[if_pos rfl,t.at0.2,Int.zero_add] at c
   have e2:(([]:List Nat)++[p]).map P=[P p]:=rfl
   rw[e2,wO]
   exact c
 | succ n ih =>
   intro p hp hm hK
   obtain ⟨ks,q,rfl⟩:∃ ks q,js=ks++[q]:=by
    have hne:js≠[]:=by intro e;rw[e] at hl;cases hl
    exact ⟨js.dropLast,js.getLast hne,(List.dropLast_concat_getLast hne).symm⟩
   have hkl:ks.length=n:=by simpa using hl
   obtain ⟨hp1,_,hp3⟩:=List.pairwise_append.1 hp
   obtain ⟨a,c⟩:=ih ks hkl q hp1 (fun j hj=>hm j (List.mem_append_left _ hj)) (by omega)
   have hqp:q<p:=hp3 q (by simp) p (by simp)
   have hpm:=hm p (by simp)
   obtain ⟨d,e⟩:=t.best (q:Int) p (n+1) (by omega) (by omega) hpm hK a
   refine ⟨d,?_⟩
   rw[if_neg (by omega),Int.toNat_natCast] at e
   have hw:=Av (N:=N) (lo:=lo) (hi:=hi) (w:=w) (S:=(ks++[q]).map P) (a:=P q) (x:=P p) (by simp) (fun y hy=>by
    obtain ⟨j,hj,rfl⟩:=List.mem_map.1 hy
    rcases List.mem_append.1 hj with hj | hj
    · exact Int.le_of_lt (hP _ _ ((List.pairwise_append.1 hp1).2.2 j hj q (by simp)) (by omega))
    · rw[List.mem_singleton.1 hj];exact Int.le_refl _) (Int.le_of_lt (hP _ _ hqp hpm))
   rw[show ((ks++[q])++[p]).map P=(ks++[q]).map P++[P p] by simp,hw]
   omega
end

theorem tG {α:Type} (p:α→Prop) (v:α→Int):∀ L:List α,(∃ y ∈ L,p y)→∃ y ∈ L,p y∧∀ z ∈ L,p z→v y≤v z
 | [],h=>by obtain ⟨y,hy,_⟩:=h;cases hy
 | a :: L,h=>by
   by_cases hL:∃ y ∈ L,p y
   · obtain ⟨y,y1,y2,y3⟩:=tG p v L hL
     by_cases ha:p a∧v a≤v y
     · refine ⟨a,List.mem_cons_self,ha.1,fun z hz pz=>?_⟩
       rcases List.mem_cons.1 hz with rfl | hz
       · exact Int.le_refl _
       · exact Int.le_trans ha.2 (y3 z hz pz)
     · refine ⟨y,List.mem_cons_of_mem _ y1,y2,fun z hz pz=>?_⟩
       rcases List.mem_cons.1 hz with rfl | hz
       · by_cases h2:v z≤v y
         · exact (ha ⟨pz,h2⟩).elim
         · omega
       · exact y3 z hz pz
   · obtain ⟨y,hy,py⟩:=h
     rcases List.mem_cons.1 hy with rfl | hy
     · refine ⟨y,List.mem_cons_self,py,fun z hz pz=>?_⟩
       rcases List.mem_cons.1 hz with rfl | hz
       · exact Int.le_refl _
       · exact (hL ⟨z,hz,pz⟩).elim
     · exact (hL ⟨y,hy,py⟩).elim
theorem zO {α:Type} [DecidableEq α] (f:Int→α) (L:List α) (hL:L.Nodup):∀ S:List Int,(L.filter fun y=>S.any fun x=>decide (f x=y)).length≤S.length
 | []=>by simp
 | x :: S=>by
   have ih:=zO f L hL S
   have h1:∀ L:List α,L.Nodup→(L.filter fun y=>(x::S).any fun x=>decide (f x=y)).length≤(L.filter fun y=>S.any fun x=>decide (f x=y)).length+(if f x ∈ L then 1 else 0):=by
    intro L
    induction L with
    | nil=>intro _;simp
    | cons a L ihL =>
      intro hn
      rw[List.nodup_cons] at hn
      have:=ihL hn.2
      rw[List.filter_cons,List.filter_cons]
      by_cases ha:f x=a
      · have hna:f x ∉ L:=by rw[ha];exact hn.1
        rw[if_neg hna] at this
        rw[if_pos (show f x ∈ a::L by rw[ha];exact List.mem_cons_self)]
        split<;>split<;>(try simp only[List.length_cons])<;>omega
      · have e:((x::S).any fun x=>decide (f x=a))=S.any fun x=>decide (f x=a):=by
         rw[List.any_cons,show decide (f x=a)=false from decide_eq_false ha,Bool.false_or]
        rw[e]
        have e2:(if f x ∈ a::L then 1 else 0)=(if f x ∈ L then 1 else 0):=by
         by_cases hm:f x ∈ L
         · rw[if_pos hm,if_pos (List.mem_cons_of_mem _ hm)]
         · rw[if_neg hm,if_neg (by rw[List.mem_cons];exact fun h=>h.elim ha hm)]
        rw[e2]
        split<;>(try simp only[List.length_cons])<;>omega
   have:=h1 L hL
   rw[List.length_cons]
   split at this<;>omega
section
variable {N:Nat} {lo hi w:Nat→Int}
theorem BY {P:Nat→Int} {m:Nat} (hc:∀ i,i<N→lo i≤hi i→∃ j,j<m∧P j=lo i) (S:List Int):∃ js:List Nat,js.Pairwise (· < ·)∧(∀ j ∈ js,j<m)∧js.length≤S.length∧∀ i,i<N→df lo hi S i=true→df lo hi (js.map P) i=true:=by
 have hf:∀ x:Int,∃ j:Nat,(∃ j ∈ List.range m,P j≤x)→j ∈ List.range m∧P j≤x∧∀ z ∈ List.range m,P z≤x→-P j≤-P z:=fun x=>by
  by_cases h:∃ j ∈ List.range m,P j≤x
  · obtain ⟨j,a⟩:=tG (fun j=>P j≤x) (fun j=>-P j) (List.range m) h
    exact ⟨j,fun _=>a⟩
  · exact ⟨0,fun c=>(h c).elim⟩
 let f:Int→Nat:=fun x=>Classical.choose (hf x)
 have hf2:∀ x,(∃ j ∈ List.range m,P j≤x)→f x ∈ List.range m∧P (f x)≤x∧∀ z ∈ List.range m,P z≤x→-P (f x)≤-P z:=fun x=>Classical.choose_spec (hf x)
 refine ⟨(List.range m).filter fun y=>S.any fun x=>decide (f x=y),List.Pairwise.filter _ List.pairwise_lt_range,fun j hj=>List.mem_range.1 (List.mem_filter.1 hj).1,zO f _ List.nodup_range S,fun i hi' hs=>?_⟩
 obtain ⟨x,hx,x1,x2⟩:=eB.1 hs
 obtain ⟨j,hj,hP⟩:=hc i hi' (by omega)
 obtain ⟨a1,a2,a3⟩:=hf2 x ⟨j,List.mem_range.2 hj,by omega⟩
 have:=a3 j (List.mem_range.2 hj) (by omega)
 refine eB.2 ⟨P (f x),List.mem_map.2 ⟨f x,List.mem_filter.2 ⟨a1,List.any_eq_true.2 ⟨x,hx,by simp⟩⟩,rfl⟩,by omega,by omega⟩
theorem IA {P:Nat→Int} {m K:Nat} {h:Int→Nat→Bool} {g:Int→Nat→Int} {b:Int→Nat→Int} (t:Tb N lo hi w P m K h g b) (hP:∀ i j,i<j→j<m→P i<P j) (hw:∀ i,i<N→0≤w i) (hc:∀ i,i<N→lo i≤hi i→∃ j,j<m∧P j=lo i) {p:Int} {n:Nat} (hp:h p n=true) (hn:n≤K) (hg:∀ q k,h q k=true→g q k≤g p n):fL N lo hi w K (g p n):=by
 refine ⟨⟨Ay P b n p,by rw[lL];exact hn,(Gj t hP n p hp).1⟩,fun S hS=>?_⟩
 obtain ⟨js,j1,j2,j3,j4⟩:=BY (lo:=lo) (hi:=hi) hc S
 refine Int.le_trans (Gq hw j4) ?_
 rcases Nat.eq_zero_or_pos js.length with h0 | h0
 · rw[List.length_eq_zero_iff.1 h0]
   have:=hg (-1) 0 t.at0.1
   rw[t.at0.2] at this
   exact (sB (N:=N) (lo:=lo) (hi:=hi) (w:=w)).symm ▸ this
 · obtain ⟨ks,q,rfl⟩:∃ ks q,js=ks++[q]:=by
    have hne:js≠[]:=by intro e;rw[e] at h0;cases h0
    exact ⟨js.dropLast,js.getLast hne,(List.dropLast_concat_getLast hne).symm⟩
   rw[List.length_append,List.length_singleton] at j3
   obtain ⟨a,c⟩:=Iz t hP ks q j1 j2 (by omega)
   exact Int.le_trans c (hg _ _ a)
end
end Go.Eng
end
section
namespace Go.Eng
section
variable (N:Nat) (lo hi w:Nat→Int) (L:Nat→Int) (m:Nat)
end
section
variable {N:Nat} {lo hi w:Nat→Int} {L:Nat→Int} {m:Nat}
end
end Go.Eng
end
section
namespace Go.Eng
section
variable {N:Nat} {lo hi w lo' hi' w':Nat→Int}
end
end Go.Eng
end
section
namespace Go.Eng
section
variable {N:Nat} {lo hi w:Nat→Int}
theorem IN:∀ (T S:List Int),S.Pairwise (· < ·)→T.Pairwise (· < ·)→T.length+2≤S.length→∃ A B C D x y,S=A++B∧T=C++D∧A.length=C.length+1∧x ∈ A∧y ∈ B∧x<y∧(∀ z,z ∈ A∨z ∈ C→z≤x)∧(∀ z,z ∈ B∨z ∈ D→y≤z)∧∀ z ∈ S.head?,z≤x
 | T,[],_,_,h=>by simp at h
 | T,[_],_,_,h=>by simp at h
 | [], s0::s1::S,hS,_,_=>by
   rw[List.pairwise_cons,List.pairwise_cons] at hS
   refine ⟨[s0],s1::S,[],[],s0,s1,rfl,rfl,rfl,by simp,by simp,hS.1 s1 (by simp),fun z hz=>?_,fun z hz=>?_,fun z hz=>?_⟩
   · rcases hz with hz | hz
     · rw[List.mem_singleton.1 hz];exact Int.le_refl _
     · cases hz
   · rcases hz with hz | hz
     · rcases List.mem_cons.1 hz with rfl | hz
       · exact Int.le_refl _
       · exact Int.le_of_lt (hS.2.1 z hz)
     · cases hz
   · simp at hz;omega
 | t0 :: T,s0::s1::S,hS,hT,hl=>by
   have hS2:=hS
   rw[List.pairwise_cons,List.pairwise_cons] at hS
   by_cases hc:s1≤t0
   · rw[List.pairwise_cons] at hT
     refine ⟨[s0],s1::S,[],t0::T,s0,s1,rfl,rfl,rfl,by simp,by simp,hS.1 s1 (by simp),fun z hz=>?_,fun z hz=>?_,fun z hz=>?_⟩
     · rcases hz with hz | hz
       · rw[List.mem_singleton.1 hz];exact Int.le_refl _
       · cases hz
     · rcases hz with hz | hz
       · rcases List.mem_cons.1 hz with rfl | hz
         · exact Int.le_refl _
         · exact Int.le_of_lt (hS.2.1 z hz)
       · rcases List.mem_cons.1 hz with rfl | hz
         · exact hc
         · exact Int.le_of_lt (Int.lt_of_le_of_lt hc (hT.1 z hz))
     · simp at hz;omega
   · obtain ⟨A,B,C,D,x,y,h1,h2,h3,h4,h5,h6,h7,h8,h9⟩:=IN T (s1::S) (List.pairwise_cons.1 hS2).2 (List.pairwise_cons.1 hT).2 (by simp at hl ⊢;omega)
     have hx:s1≤x:=h9 s1 (by simp)
     have h01:s0<s1:=hS.1 s1 (by simp)
     refine ⟨s0::A,B,t0::C,D,x,y,by rw[h1];rfl,by rw[h2];rfl,by simp[h3],List.mem_cons_of_mem _ h4,h5,h6,fun z hz=>?_,h8,fun z hz=>?_⟩
     · rcases hz with hz | hz
       · rcases List.mem_cons.1 hz with rfl | hz
         · omega
         · exact h7 z (.inl hz)
       · rcases List.mem_cons.1 hz with rfl | hz
         · omega
         · exact h7 z (.inr hz)
     · simp at hz;omega
theorem pI {S T:List Int} {i:Nat}:df lo hi (S++T) i=(df lo hi S i || df lo hi T i):=by unfold df;rw[List.any_append]
theorem Ef (hw:∀ i,i<N→0≤w i) {A B C D:List Int} {x y:Int} (hx:x ∈ A) (hy:y ∈ B) (hxy:x<y) (h1:∀ z,z ∈ A∨z ∈ C→z≤x) (h2:∀ z,z ∈ B∨z ∈ D→y≤z):lZ N lo hi w (A++B)+lZ N lo hi w (C++D)≤lZ N lo hi w (A++D)+lZ N lo hi w (C++B):=by
 unfold lZ
 rw[← jN,← jN]
 refine kd N (fun i hi2=>?_)
 have hwi:=hw i hi2
 rw[pI,pI,pI,pI]
 have k1:df lo hi A i=true→df lo hi D i=true→df lo hi B i=true:=fun a d=>by
  obtain ⟨u,u1,u2,u3⟩:=eB.1 a
  obtain ⟨v,v1,v2,v3⟩:=eB.1 d
  have:=h1 u (.inl u1)
  have:=h2 v (.inr v1)
  exact eB.2 ⟨y,hy,by omega,by omega⟩
 have k2:df lo hi C i=true→df lo hi B i=true→df lo hi A i=true:=fun a d=>by
  obtain ⟨u,u1,u2,u3⟩:=eB.1 a
  obtain ⟨v,v1,v2,v3⟩:=eB.1 d
  have:=h1 u (.inr u1)
  have:=h2 v (.inl v1)
  exact eB.2 ⟨x,hx,by omega,by omega⟩
 revert k1 k2
 cases df lo hi A i<;>cases df lo hi B i<;>cases df lo hi C i<;>cases df lo hi D i<;>simp<;>omega
theorem kG {K K':Nat} {M M':Int} (hK:K≤K') (h:fL N lo hi w K M) (h':fL N lo hi w K' M'):M≤M':=by
 obtain ⟨⟨S,a,b⟩,_⟩:=h
 rw[← b]
 exact h'.2 S (by omega)
theorem wE {P:Nat→Int} {m:Nat} (hP:∀ i j,i<j→j<m→P i<P j) (hc:∀ i,i<N→lo i≤hi i→∃ j,j<m∧P j=lo i) (hw:∀ i,i<N→0≤w i) (S:List Int):∃ T:List Int,T.Pairwise (· < ·)∧T.length≤S.length∧lZ N lo hi w S≤lZ N lo hi w T:=by
 obtain ⟨js,j1,j2,j3,j4⟩:=BY (lo:=lo) (hi:=hi) hc S
 refine ⟨js.map P,?_,by simpa using j3,Gq hw j4⟩
 rw[List.pairwise_map]
 exact List.Pairwise.imp_of_mem (fun ha hb h=>hP _ _ h (j2 _ hb)) j1
theorem rH {P:Nat→Int} {m:Nat} (hP:∀ i j,i<j→j<m→P i<P j) (hc:∀ i,i<N→lo i≤hi i→∃ j,j<m∧P j=lo i) (hw:∀ i,i<N→0≤w i) {K:Nat} {M0 M1 M2:Int} (h0:fL N lo hi w K M0) (h1:fL N lo hi w (K+1) M1) (h2:fL N lo hi w (K+2) M2):M0+M2≤M1+M1:=by
 have hm:=kG (by omega) h0 h1
 obtain ⟨S0,a0,b0⟩:=h2.1
 obtain ⟨T0,c0,d0⟩:=h0.1
 obtain ⟨S,s1,s2,s3⟩:=wE hP hc hw S0
 obtain ⟨T,t1,t2,t3⟩:=wE hP hc hw T0
 by_cases hl:T.length+2≤S.length
 · obtain ⟨A,B,C,D,x,y,e1,e2,e3,e4,e5,e6,e7,e8,_⟩:=IN T S s1 t1 hl
   have:=Ef (lo:=lo) (hi:=hi) hw e4 e5 e6 e7 e8
   rw[← e1,← e2] at this
   have hT:C.length+D.length=T.length:=by rw[e2,List.length_append]
   have hS:A.length+B.length=S.length:=by rw[e1,List.length_append]
   have k1:=h1.2 (A++D) (by rw[List.length_append];omega)
   have k2:=h1.2 (C++B) (by rw[List.length_append];omega)
   omega
 · by_cases hs:S.length≤K+1
   · have:=h1.2 S hs
     omega
   · -- so many of one, but so few of the other: T has K + 1 at least
     omega
end

def fG (N:Nat) (lo hi p:Nat→Int) (x:Int):Int:=gG (fun i=>if bH lo hi x i=true then p i else 0) N
structure Jk (N:Nat) (lo hi:Nat→Int) (lam:Int) (y:Int) (p q:Nat→Int):Prop where
 out:∀ i,i<N→bH lo hi y i=false→q i=p i
 le:∀ i,i<N→0≤q i∧q i≤p i
 sum:fG N lo hi q y≤lam
 cut:∀ i,i<N→q i<p i→fG N lo hi q y=lam∧∀ k,k<N→bH lo hi y k=true→hi i<hi k→q k=0
def oS (N:Nat) (lo hi w:Nat→Int) (lam:Int) (p:Nat→Int) (b:Int):Prop:=∀ Z:Int,b≤Z→∃ S:List Int,S.Nodup∧(∀ x ∈ S,x<b)∧(∀ x ∈ S,fG N lo hi p x=lam∧∀ i,i<N→bH lo hi x i=true→Z≤hi i→p i=0) ∧
 (∀ i,i<N→p i<w i→hi i<Z→df lo hi S i=true)∧∀ i,i<N→0<p i→hi i<Z→∀ x ∈ S,∀ x' ∈ S,bH lo hi x i=true→bH lo hi x' i=true→x=x'
section
variable {N:Nat} {lo hi w:Nat→Int} {lam:Int}
theorem gr {x:Int} {i:Nat}:bH lo hi x i=true↔lo i≤x∧x≤hi i:=by
 unfold bH
 rw[Bool.and_eq_true,decide_eq_true_eq,decide_eq_true_eq]
theorem mD {S:List Int} {i:Nat}:df lo hi S i=true↔∃ x ∈ S,bH lo hi x i=true:=by
 rw[eB]
 simp only[gr]
theorem wJ {p q:Nat→Int} {x:Int} (h:∀ i,i<N→bH lo hi x i=true→q i=p i):fG N lo hi q x=fG N lo hi p x:=fv N (fun i hi2=>by
 cases c:bH lo hi x i with
 | false=>rfl
 | true=>rw[if_pos rfl,if_pos rfl,h i hi2 c])
theorem Dp {p:Nat→Int} {b b':Int} (h:oS N lo hi w lam p b) (hb:b≤b'):oS N lo hi w lam p b':=fun Z hZ=>by
 obtain ⟨S,s0,s1,s2⟩:=h Z (by omega)
 exact ⟨S,s0,fun x hx=>by have:=s1 x hx;omega,s2⟩
theorem vH {p q:Nat→Int} {y:Int} (h:oS N lo hi w lam p y) (c:Jk N lo hi lam y p q):oS N lo hi w lam q (y+1):=fun Z hZ=>by
 by_cases hk:∃ i,i<N∧q i<p i∧hi i<Z
 · obtain ⟨i0,i1,i2,i3⟩:=hk
   obtain ⟨S,s0,s1,s2,s3,s4⟩:=h y (Int.le_refl _)
   obtain ⟨c1,c2⟩:=c.cut i0 i1 i2
   have hq:∀ x ∈ S,∀ i,i<N→bH lo hi x i=true→q i=p i:=fun x hx i hi2 hxi=>by
    by_cases e:y≤hi i
    · have:=(s2 x hx).2 i hi2 hxi e
      have:=c.le i hi2
      omega
    · refine c.out i hi2 ?_
      cases d:bH lo hi y i with
      | false=>rfl
      | true=>exact (e (gr.1 d).2).elim
   refine ⟨y::S,List.nodup_cons.2 ⟨fun hm=>by have:=s1 y hm;omega,s0⟩,fun x hx=>?_,fun x hx=>?_,fun i hi2 hpw hiZ=>?_,fun i hi2 hp hiZ x hx x' hx' hxi hxi'=>?_⟩
   · rcases List.mem_cons.1 hx with rfl | hx
     · omega
     · have:=s1 x hx;omega
   · rcases List.mem_cons.1 hx with rfl | hx
     · exact ⟨c1,fun i hi2 hxi hiZ=>c2 i hi2 hxi (by omega)⟩
     · refine ⟨by rw[wJ (hq x hx)];exact (s2 x hx).1,fun i hi2 hxi hiZ=>?_⟩
       rw[hq x hx i hi2 hxi]
       exact (s2 x hx).2 i hi2 hxi (by omega)
   · by_cases e:bH lo hi y i=true
     · exact mD.2 ⟨y,List.mem_cons_self,e⟩
     · have e1:=c.out i hi2 (by simpa using e)
       by_cases e2:hi i<y
       · obtain ⟨x,x1,x2⟩:=mD.1 (s3 i hi2 (by omega) e2)
         exact mD.2 ⟨x,List.mem_cons_of_mem _ x1,x2⟩
       · -- it was made less before, so its first birth is behind
         obtain ⟨S2,_,t1,_,t3,_⟩:=h Z (by omega)
         obtain ⟨x,x1,x2⟩:=mD.1 (t3 i hi2 (by omega) hiZ)
         have:=t1 x x1
         have:=gr.1 x2
         exact (e (gr.2 ⟨by omega,by omega⟩)).elim
   · have hpi:0<p i:=by have:=c.le i hi2;omega
     have hno:∀ z ∈ S,bH lo hi z i=true→bH lo hi y i=true→False:=fun z hz a b=>by
      have:=(s2 z hz).2 i hi2 a (gr.1 b).2
      omega
     rcases List.mem_cons.1 hx with e1 | e1
     · rcases List.mem_cons.1 hx' with e2 | e2
       · rw[e1,e2]
       · exact (hno _ e2 hxi' (e1 ▸ hxi)).elim
     · rcases List.mem_cons.1 hx' with e2 | e2
       · exact (hno _ e1 hxi (e2 ▸ hxi')).elim
       · by_cases e:hi i<y
         · exact s4 i hi2 hpi e x e1 x' e2 hxi hxi'
         · have:=(s2 x e1).2 i hi2 hxi (by omega)
           omega
 · obtain ⟨S,s0,s1,s2,s3,s4⟩:=h Z (by omega)
   have hq:∀ i,i<N→hi i<Z→q i=p i:=fun i hi2 hZ'=>by
    have:=c.le i hi2
    by_cases e:q i<p i
    · exact (hk ⟨i,hi2,e,hZ'⟩).elim
    · omega
   have hqx:∀ x ∈ S,∀ i,i<N→bH lo hi x i=true→q i=p i:=fun x hx i hi2 hxi=>by
    by_cases e:hi i<Z
    · exact hq i hi2 e
    · have:=(s2 x hx).2 i hi2 hxi (by omega)
      have:=c.le i hi2
      omega
   refine ⟨S,s0,fun x hx=>by have:=s1 x hx;omega,fun x hx=>⟨by rw[wJ (hqx x hx)];exact (s2 x hx).1,fun i hi2 hxi hiZ=>?_⟩,fun i hi2 hpw hiZ=>s3 i hi2 (by rw[← hq i hi2 hiZ];exact hpw) hiZ,fun i hi2 hp hiZ=>s4 i hi2 (by rw[← hq i hi2 hiZ];exact hp) hiZ⟩
   rw[hqx x hx i hi2 hxi]
   exact (s2 x hx).2 i hi2 hxi hiZ
def me (N:Nat) (w p:Nat→Int):Int:=gG (fun i=>w i-p i) N
def Iv (N:Nat) (lo hi p:Nat→Int):List Int→Int
 | []=>0
 | x::S=>fG N lo hi p x+Iv N lo hi p S
theorem KU {p:Nat→Int} {S:List Int} (h:∀ x ∈ S,fG N lo hi p x≤lam):Iv N lo hi p S≤lam*S.length:=by
 induction S with
 | nil=>show (0:Int)≤lam*((0:Nat):Int);simp
 | cons x S ih =>
   have h1:=ih (fun z hz=>h z (List.mem_cons_of_mem _ hz))
   have h2:=h x List.mem_cons_self
   show fG N lo hi p x+Iv N lo hi p S≤lam*((S.length+1:Nat):Int)
   rw[show ((S.length+1:Nat):Int)=S.length+1 from rfl,Int.mul_add,Int.mul_one]
   omega
theorem KS {p:Nat→Int} {S:List Int} (h:∀ x ∈ S,fG N lo hi p x=lam):Iv N lo hi p S=lam*S.length:=by
 induction S with
 | nil=>show (0:Int)=lam*((0:Nat):Int);simp
 | cons x S ih =>
   have h1:=ih (fun z hz=>h z (List.mem_cons_of_mem _ hz))
   have h2:=h x List.mem_cons_self
   show fG N lo hi p x+Iv N lo hi p S=lam*((S.length+1:Nat):Int)
   rw[show ((S.length+1:Nat):Int)=S.length+1 from rfl,Int.mul_add,Int.mul_one]
   omega
def Gw (N:Nat) (lo hi p:Nat→Int) (S:List Int):Int:=gG (fun i=>if df lo hi S i=true then p i else 0) N
theorem EO {p:Nat→Int} (hp:∀ i,i<N→0≤p i):∀ S,Gw N lo hi p S≤Iv N lo hi p S
 | []=>Int.le_of_eq (mY (fun i _=>by rw[if_neg (by simp[df])]))
 | x::S=>by
   have ih:=EO hp S
   have:Gw N lo hi p (x::S)≤fG N lo hi p x+Gw N lo hi p S:=by
    unfold Gw fG
    rw[← jN]
    refine kd N (fun i hi2=>?_)
    have:=hp i hi2
    rw[show df lo hi (x::S) i=(bH lo hi x i || df lo hi S i) from rfl]
    cases bH lo hi x i<;>cases df lo hi S i<;>simp<;>omega
   show _≤fG N lo hi p x+Iv N lo hi p S
   omega
theorem EN {p:Nat→Int} (hp:∀ i,i<N→0≤p i):∀ S:List Int,S.Nodup→(∀ i,i<N→0<p i→∀ x ∈ S,∀ x' ∈ S,bH lo hi x i=true→bH lo hi x' i=true→x=x')→Gw N lo hi p S=Iv N lo hi p S
 | [],_,_=>mY (fun i _=>by rw[if_neg (by simp[df])])
 | x :: S,hn,h=>by
   rw[List.nodup_cons] at hn
   have ih:=EN hp S hn.2 (fun i hi2 hpi a ha b hb=>h i hi2 hpi a (List.mem_cons_of_mem _ ha) b (List.mem_cons_of_mem _ hb))
   show _=fG N lo hi p x+Iv N lo hi p S
   rw[← ih]
   unfold Gw fG
   rw[← jN]
   refine fv N (fun i hi2=>?_)
   have hpi:=hp i hi2
   rw[show df lo hi (x::S) i=(bH lo hi x i || df lo hi S i) from rfl]
   cases a:bH lo hi x i with
   | false=>simp
   | true =>
     cases b:df lo hi S i with
     | false=>simp
     | true =>
       have:p i=0:=by
        by_cases e:0<p i
        · obtain ⟨z,z1,z2⟩:=mD.1 b
          have:=h i hi2 e x List.mem_cons_self z (List.mem_cons_of_mem _ z1) a z2
          exact (hn.1 (this ▸ z1)).elim
        · omega
       simp[this]
theorem NC {p:Nat→Int} (hp:∀ i,i<N→0≤p i∧p i≤w i) (hs:∀ x,fG N lo hi p x≤lam) (S:List Int):lZ N lo hi w S≤lam*S.length+me N w p:=by
 have h1:=EO (lo:=lo) (hi:=hi) (fun i hi2=>(hp i hi2).1) S
 have h2:=KU (lam:=lam) (S:=S) (fun x _=>hs x)
 have h3:lZ N lo hi w S≤Gw N lo hi p S+me N w p:=by
  unfold lZ Gw me
  rw[← jN]
  refine kd N (fun i hi2=>?_)
  have:=hp i hi2
  split<;>omega
 omega
theorem KR {p:Nat→Int} {b:Int} (hp:∀ i,i<N→0≤p i∧p i≤w i) (h:oS N lo hi w lam p b):∃ S:List Int,lZ N lo hi w S=lam*S.length+me N w p:=by
 obtain ⟨Z,hZb,hZ⟩:∃ Z:Int,b≤Z∧∀ i,i<N→hi i<Z:=by
  clear h hp
  induction N with
  | zero=>exact ⟨b,Int.le_refl _,fun i h=>by omega⟩
  | succ n ih =>
    obtain ⟨Z,h1,h2⟩:=ih
    refine ⟨max Z (hi n+1),by omega,fun i h=>?_⟩
    by_cases e:i=n
    · subst e;omega
    · have:=h2 i (by omega);omega
 obtain ⟨S,s0,_,s2,s3,s4⟩:=h Z hZb
 refine ⟨S,?_⟩
 have h1:=EN (fun i hi2=>(hp i hi2).1) S s0 (fun i hi2 hpi=>s4 i hi2 hpi (hZ i hi2))
 have h2:=KS (fun x hx=>(s2 x hx).1)
 have h3:lZ N lo hi w S=Gw N lo hi p S+me N w p:=by
  unfold lZ Gw me
  rw[← jN]
  refine fv N (fun i hi2=>?_)
  have:=hp i hi2
  split
  · omega
  · rename_i e
    by_cases e2:p i<w i
    · exact (e (s3 i hi2 e2 (hZ i hi2))).elim
    · omega
 omega
end
theorem DJ {N:Nat} {lo hi w:Nat→Int} (hw:∀ i,i<N→0≤w i) (K:Nat):∃ M,fL N lo hi w K M:=by
 have hb:∀ S,0≤lZ N lo hi w S∧lZ N lo hi w S≤gG w N:=fun S=>⟨xY N (fun i hi2=>by have:=hw i hi2;split<;>omega),kd N (fun i hi2=>by have:=hw i hi2;split<;>omega)⟩
 have key:∀ d:Nat,(∃ S:List Int,S.length≤K∧gG w N-lZ N lo hi w S≤d)→∃ M,fL N lo hi w K M:=by
  intro d
  induction d with
  | zero =>
    rintro ⟨S,a,b⟩
    exact ⟨_,⟨S,a,rfl⟩,fun T hT=>by have:=(hb T).2;omega⟩
  | succ d ih =>
    rintro ⟨S,a,b⟩
    by_cases h:∃ S:List Int,S.length≤K∧gG w N-lZ N lo hi w S≤d
    · exact ih h
    · refine ⟨_,⟨S,a,rfl⟩,fun T hT=>?_⟩
      by_cases e:gG w N-lZ N lo hi w T≤d
      · exact (h ⟨T,hT,e⟩).elim
      · omega
 exact key (gG w N-lZ N lo hi w []).toNat ⟨[],Nat.zero_le _,by omega⟩
theorem GY {f:Nat→Int} (h:∀ n,f n+f (n+2)≤f (n+1)+f (n+1)) (k:Nat) (j:Nat):f j≤f k+(f (k+1)-f k)*((j:Int)-k):=by
 have up:∀ d,f (k+d+1)-f (k+d)≤f (k+1)-f k:=by
  intro d
  induction d with
  | zero=>exact Int.le_refl _
  | succ d ih =>
    have:=h (k+d)
    show f (k+d+2)-f (k+d+1)≤_
    omega
 have dn:∀ d,d≤k→f (k+1)-f k≤f (k-d+1)-f (k-d):=by
  intro d
  induction d with
  | zero=>intro _;exact Int.le_refl _
  | succ d ih =>
    intro hd
    have:=ih (by omega)
    have h2:=h (k-(d+1))
    rw[show k-(d+1)+2=k-d+1 by omega,show k-(d+1)+1=k-d by omega] at h2
    rw[show k-(d+1)+1=k-d by omega]
    omega
 have up2:∀ d:Nat,f (k+d)≤f k+(f (k+1)-f k)*(d:Int):=by
  intro d
  induction d with
  | zero=>simp
  | succ d ih =>
    have:=up d
    have e:(f (k+1)-f k)*((d+1:Nat):Int)=(f (k+1)-f k)*(d:Int)+(f (k+1)-f k):=by
     rw[show ((d+1:Nat):Int)=(d:Int)+1 from rfl,Int.mul_add,Int.mul_one]
    rw[e]
    show f (k+d+1)≤_
    omega
 have dn2:∀ d:Nat,d≤k→f (k-d)≤f k-(f (k+1)-f k)*(d:Int):=by
  intro d
  induction d with
  | zero=>intro _;simp
  | succ d ih =>
    intro hd
    have:=dn (d+1) hd
    have ih:=ih (by omega)
    rw[show k-(d+1)+1=k-d by omega] at this
    have e:(f (k+1)-f k)*((d+1:Nat):Int)=(f (k+1)-f k)*(d:Int)+(f (k+1)-f k):=by
     rw[show ((d+1:Nat):Int)=(d:Int)+1 from rfl,Int.mul_add,Int.mul_one]
    rw[e]
    omega
 by_cases hj:k≤j
 · have:=up2 (j-k)
   rw[show k+(j-k)=j by omega,show ((j-k:Nat):Int)=(j:Int)-k by omega] at this
   exact this
 · have:=dn2 (k-j) (by omega)
   rw[show k-(k-j)=j by omega,show ((k-j:Nat):Int)=(k:Int)-j by omega] at this
   have e:(f (k+1)-f k)*((j:Int)-k)=-((f (k+1)-f k)*((k:Int)-j)):=by
    rw[← Int.mul_neg];congr 1;omega
   rw[e]
   omega
theorem Bd {N:Nat} {lo hi w:Nat→Int} {P:Nat→Int} {m:Nat} (hP:∀ i j,i<j→j<m→P i<P j) (hc:∀ i,i<N→lo i≤hi i→∃ j,j<m∧P j=lo i) (hw:∀ i,i<N→0≤w i) {K:Nat} {M0 M1:Int} (h0:fL N lo hi w K M0) (h1:fL N lo hi w (K+1) M1) {p:Nat→Int} {b:Int} (hp:∀ i,i<N→0≤p i∧p i≤w i) (hs:∀ x,fG N lo hi p x≤M1-M0) (hd:oS N lo hi w (M1-M0) p b):(M1-M0)*K+me N w p=M0:=by
 have hm:M0≤(M1-M0)*K+me N w p:=by
  obtain ⟨⟨S,a,c⟩,_⟩:=h0
  have h2:=NC hp hs S
  have h3:=kG (by omega) ⟨⟨S,a,c⟩,by assumption⟩ h1
  have:(M1-M0)*(S.length:Int)≤(M1-M0)*(K:Int):=Int.mul_le_mul_of_nonneg_left (by omega) (by omega)
  omega
 obtain ⟨S,hS⟩:=KR hp hd
 have hf:∀ n,∃ M,fL N lo hi w n M:=DJ hw
 let f:Nat→Int:=fun n=>Classical.choose (hf n)
 have hfs:∀ n,fL N lo hi w n (f n):=fun n=>Classical.choose_spec (hf n)
 have hcv:=GY (f:=f) (fun n=>rH hP hc hw (hfs n) (hfs (n+1)) (hfs (n+2))) K S.length
 rw[tE (hfs K) h0,tE (hfs (K+1)) h1] at hcv
 have h4:=(hfs S.length).2 S (Nat.le_refl _)
 have e:(M1-M0)*((S.length:Int)-K)=(M1-M0)*S.length-(M1-M0)*K:=Int.mul_sub _ _ _
 rw[e] at hcv
 omega
end Go.Eng
end
