/- The engine: a law's arguments as abstract values. -/
import Derived.Test.YtigmfpmabgekoaaGreatV6EngKtBx6
set_option linter.unusedVariables false
set_option linter.unusedSimpArgs false
section
namespace Go.Eng
open Go.ChangeShapes

def Pw (w:World):aC:=fun b o=>w.cell? ⟨b,o,none⟩
theorem aS.all (w:World):aS (Pw w) Mu.no [⟨true,[]⟩] w where
 pers:=fun b o v h=>h
 live:=fun d i v B hg hB=>by
  cases d<;>simp[ao,ak] at hg<;>exact absurd hg.2.symm hB
 apart:=fun d i v B d' i' v' B' b o t o' t' hg hB hg' hB' hm hm'=>by cases hm
 dom:=fun d i v t hm=>by cases hm

theorem BB {P:Program} {call:aJ} (hC:bD P call) {f:FuncId} {args:List AV} {x:Bool} {H':aa} (h:call (.fn f) args [⟨true,[]⟩]=some (.bool x,H')) {cargs:Array Value} {w:World} (hA:fU (Pw w) Mu.no args cargs) :
 Calls P f cargs w (fun e w'=>e=.returned (.bool x)∧Go.RowKit.Below w.heap.size w w'):=by
 have:=(hC (.fn f) args _ (.bool x) H' h (by simp) _ _ w cargs (aS.all w) hA).2
 refine (callsIn_wide.1 this).mono ?_
 rintro e w' ⟨cv,rfl,_,p',M',hE,hv⟩
 cases hv
 exact ⟨rfl,(hE.stay.weaken (fun b _ _ d i v B _ _ _ o t hm=>by cases hm)).below⟩

def lj (k:IntKind) (P:Program) (t:TypeId) (n:Nat):Prop:=∀ (H:Type) (enc:TypeId×Value→H) (w:World) (base:Nat) (sp:Nat→Bool) (held:Bool) (fuel:Nat) (cs:List Value) (x:DataW H×List MemPlace),
 DataW.trod enc P w base sp held fuel t cs=some x→cs.length=n∧∀ j,j<n→∃ z:Int,cs[j]?=some (.int k z)∧(Lit.int k z).wf=true
abbrev CE (P:Program) (t:TypeId) (n:Nat):Prop:=lj .i64 P t n
theorem Df {P:Program} {t:TypeId} {k:IntKind} (ht:P.underlying t=some (.int k)):lj k P t 1:=by
 intro H enc w base sp held fuel cs x h
 obtain ⟨n,rfl,_,hw⟩:=DataW.trod_int ht h
 refine ⟨rfl,fun j hj=>?_⟩
 obtain rfl:j=0:=by omega
 exact ⟨n,rfl,hw⟩
theorem vB {P:Program} {k:IntKind} {t:TypeId} {f0 f1:Field} {n0 n1:Nat} (ht:P.underlying t=some (.struct #[f0,f1])) (h0:lj k P f0.type n0) (h1:lj k P f1.type n1) (o0:f0.offset=0) (o1:f1.offset=n0) (c0:P.cellsOf f0.type=n0) (c1:P.cellsOf f1.type=n1) (c:P.cellsOf t=n0+n1):lj k P t (n0+n1):=by
 intro H enc w base sp held fuel cs x h
 obtain ⟨y0,y1,n,_,hl,g0,g1⟩:=trod_struct2 ht h
 obtain ⟨k0,k1⟩:=h0 _ _ _ _ _ _ _ _ _ g0
 obtain ⟨m0,m1⟩:=h1 _ _ _ _ _ _ _ _ _ g1
 refine ⟨by rw[hl,c],fun j hj=>?_⟩
 by_cases hlt:j<n0
 · obtain ⟨z,hz,hw⟩:=k1 j hlt
   refine ⟨z,?_,hw⟩
   rw[o0,c0] at hz
   simpa[List.getElem?_take,hlt] using hz
 · obtain ⟨z,hz,hw⟩:=m1 (j-n0) (by omega)
   refine ⟨z,?_,hw⟩
   rw[o1,c1] at hz
   have hlt2:j-n0<n1:=by omega
   simpa[List.getElem?_take,hlt2,List.getElem?_drop,show n0+(j-n0)=j by omega] using hz

theorem rP {w:World} {a:Addr}:∀ (l:List Nat) (cs:List Value),(l.mapM fun i=>w.cell? (a.add i))=some cs→∀ (j i:Nat),l[j]?=some i→∃ v,cs[j]?=some v∧w.cell? (a.add i)=some v
 | [],cs,h,j,i,hi=>by simp at hi
 | x::l,cs,h,j,i,hi=>by
   simp only[List.mapM_cons,Option.bind_eq_bind,Option.bind_eq_some_iff,Option.pure_def,Option.some.injEq] at h
   obtain ⟨v,hv,r,hr,rfl⟩:=h
   cases j with
   | zero=>simp at hi;subst hi;exact ⟨v,rfl,hv⟩
   | succ j=>exact rP l r hr j i (by simpa using hi)

theorem zS {P:Program} {k:IntKind} {t e:TypeId} {n:Nat} (ht:P.underlying t=some (.slice e)) (he:lj k P e n) (hn:0<n) (hc:P.cellsOf e=n) {H:Type} {enc:TypeId×Value→H} {w:World} {base:Nat} {sp:Nat→Bool} {held:Bool} {fuel:Nat} {v:Value} {x:DataW H×List MemPlace}
 (hspot:∀ a l c,v=.slice (some a) l c→a.spot=none) (h:DataW.trod enc P w base sp held fuel t [v]=some x) :
 (v=.slice none 0 0)∨∃ (zs:Nat→Int) (len:Nat),ai (Pw w) Mu.no (.slcT none (.F (fun j=>.int k (zs j)) (len*n)) n len false) v∧∀ j,j<len*n→(Lit.int k (zs j)).wf=true:=by
 rcases DataW.trod_slice ht h with ⟨h0,_⟩ | ⟨a,len,cap,elems,rest,m,_,hcs,_,_,hl,_,hlen,hel,_,_⟩
 · left;simpa using h0
 · right
   simp only[List.cons.injEq,and_true] at hcs
   have hsp:=hspot a len cap hcs
   have cell:∀ j,j<len*n→∃ z:Int,w.cell? ⟨a.block,a.off+j,none⟩=some (.int k z)∧(Lit.int k z).wf=true:=by
    intro j hj
    have hi:j / n<len:=by rw[Nat.div_lt_iff_lt_mul hn];exact hj
    have:=hel (j / n) hi
    have hex:elems[j / n]?≠none:=by simp;omega
    rw[← this] at hex
    cases hcl:w.cells? base (a.add (j / n*P.cellsOf e)) (P.cellsOf e) with
    | none=>rw[hcl] at hex;simp at hex
    | some cs =>
      rw[hcl] at hex
      cases hy:DataW.trod enc P w base sp held m e cs with
      | none=>simp[hy] at hex
      | some y =>
        obtain ⟨k0,k1⟩:=he _ _ _ _ _ _ _ _ _ hy
        obtain ⟨z,hz,hw⟩:=k1 (j % n) (Nat.mod_lt _ hn)
        unfold World.cells? at hcl
        split at hcl
        · obtain ⟨u,hu,hcu⟩:=rP _ _ hcl (j % n) (j % n) (by rw[hc];simp[Nat.mod_lt _ hn])
          rw[hz] at hu
          have hu:=Option.some.inj hu
          subst hu
          refine ⟨z,?_,hw⟩
          rw[hc] at hcu
          have e1:(a.add (j / n*n)).add (j % n)=⟨a.block,a.off+j,none⟩:=by
           have hd:=Nat.div_add_mod j n
           have hd2:j / n*n+j % n=j:=by rw[Nat.mul_comm];exact hd
           cases a
           simp only at hsp
           subst hsp
           have ad:∀ (b o i:Nat),Addr.add ⟨b,o,none⟩ i=⟨b,o+i,none⟩:=fun b o i=>by
            unfold Addr.add
            split
            · rename_i h0;subst h0;rfl
            · rfl
           rw[ad,ad,Nat.add_assoc,hd2]
          rw[← e1];exact hcu
        · simp at hcl
   obtain ⟨zs,hzs⟩:∃ zs:Nat→Int,∀ j,j<len*n→w.cell? ⟨a.block,a.off+j,none⟩=some (.int k (zs j))∧(Lit.int k (zs j)).wf=true :=
    ⟨fun j=>if h:j<len*n then Classical.choose (cell j h) else 0,fun j hj=>by
      have:=Classical.choose_spec (cell j hj)
      simp only[dif_pos hj]
      exact this⟩
   refine ⟨zs,len,?_,fun j hj=>(hzs j hj).2⟩
   rw[hcs]
   obtain ⟨b,o,sp'⟩:=a
   simp only at hsp
   subst hsp
   exact .slcT (o:=o) (fun j=>.int k (zs j)) (fun j hj=>(hzs j hj).1) (fun j hj=>rfl) (fun j hj=>.int _ _) hl (fun h=>by cases h) (.inr rfl)

end Go.Eng
end
section
namespace Go.Eng
def qM (f:Nat→Int):Nat→Int
 | 0=>0
 | i+1=>qM f i+f i
theorem ir {f g:Nat→Int}:∀ n,(∀ i,i<n→f i=g i)→qM f n=qM g n
 | 0,_=>rfl
 | n+1,h=>by
   show qM f n+f n=qM g n+g n
   rw[ir n (fun i hi=>h i (by omega)),h n (by omega)]
theorem zU {f g:Nat→Int}:∀ n,(∀ i,i<n→f i≤g i)→qM f n≤qM g n
 | 0,_=>Int.le_refl _
 | n+1,h=>by
   have:=zU n (fun i hi=>h i (by omega))
   have:=h n (by omega)
   show qM f n+f n≤qM g n+g n
   omega
theorem Bc (f g:Nat→Int):∀ n,qM (fun i=>f i+g i) n=qM f n+qM g n
 | 0=>rfl
 | n+1=>by
   show qM (fun i=>f i+g i) n+(f n+g n)=(qM f n+f n)+(qM g n+g n)
   rw[Bc f g n];omega
theorem yF {f:Nat→Int} {n:Nat} (h:∀ i,i<n→f i=0):qM f n=0:=by
 rw[ir (g:=fun _=>0) n h]
 clear h
 induction n with
 | zero=>rfl
 | succ n ih=>show qM (fun _=>0) n+0=0;rw[ih];rfl
theorem Eu {f:Nat→Int}:∀ n,(∀ i,i<n→0≤f i)→0≤qM f n
 | 0,_=>Int.le_refl _
 | n+1,h=>by
   have:=Eu n (fun i hi=>h i (by omega))
   have:=h n (by omega)
   show 0≤qM f n+f n
   omega
section
variable (N:Nat) (lo hi w:Nat→Int)
def jQ (x:Int) (i:Nat):Bool:=decide (lo i≤x) && decide (x≤hi i)
def jl (S:List Int) (i:Nat):Bool:=S.any fun x=>jQ lo hi x i
def tg (S:List Int):Int:=qM (fun i=>if jl lo hi S i=true then w i else 0) N
def I6 (old:Nat→Bool) (x:Int):Int:=qM (fun i=>if jQ lo hi x i=true∧old i=false then w i else 0) N
def ry (K:Nat) (M:Int):Prop:=(∃ S:List Int,S.length≤K∧tg N lo hi w S=M)∧∀ S:List Int,S.length≤K→tg N lo hi w S≤M
end
section
variable {N:Nat} {lo hi w:Nat→Int}
theorem zn {K:Nat} {M M':Int} (h:ry N lo hi w K M) (h':ry N lo hi w K M'):M=M':=by
 obtain ⟨⟨S,a,b⟩,c⟩:=h
 obtain ⟨⟨S',a',b'⟩,c'⟩:=h'
 have:=c S' a'
 have:=c' S a
 omega
theorem jR {S:List Int} {i:Nat}:jl lo hi S i=true↔∃ x ∈ S,lo i≤x∧x≤hi i:=by
 unfold jl jQ
 rw[List.any_eq_true]
 simp only[Bool.and_eq_true,decide_eq_true_eq]
theorem EG (hw:∀ i,i<N→0≤w i) {S T:List Int} (h:∀ i,i<N→jl lo hi S i=true→jl lo hi T i=true):tg N lo hi w S≤tg N lo hi w T:=zU N (fun i hi'=>by
 by_cases c:jl lo hi S i=true
 · rw[if_pos c,if_pos (h i hi' c)];exact Int.le_refl _
 · rw[if_neg c]
   split
   · exact hw i hi'
   · exact Int.le_refl _)
theorem rq:tg N lo hi w []=0:=yF (fun i _=>by rw[if_neg (by simp[jl])])
theorem yP {S:List Int} {a x:Int} (ha:a ∈ S) (hS:∀ y ∈ S,y≤a) (hax:a≤x):tg N lo hi w (S++[x])=tg N lo hi w S+I6 N lo hi w (jQ lo hi a) x:=by
 unfold tg I6
 rw[← Bc]
 refine ir N (fun i _=>?_)
 have e:jl lo hi (S++[x]) i=(jl lo hi S i || jQ lo hi x i):=by unfold jl;simp
 rw[e]
 cases hx:jQ lo hi x i with
 | false =>
   rw[Bool.or_false,if_neg (c:=_∧_) (by simp)]
   omega
 | true =>
   rw[Bool.or_true,if_pos rfl]
   cases hs:jl lo hi S i with
   | false =>
     have:jQ lo hi a i=false:=by
      cases h:jQ lo hi a i with
      | false=>rfl
      | true =>
        have:jl lo hi S i=true:=List.any_eq_true.2 ⟨a,ha,h⟩
        rw[this] at hs;cases hs
     rw[if_neg (by simp),if_pos ⟨rfl,this⟩];omega
   | true =>
     obtain ⟨y,y1,y2,y3⟩:=jR.1 hs
     have hya:=hS y y1
     have:jQ lo hi a i=true:=by
      unfold jQ at hx ⊢
      rw[Bool.and_eq_true,decide_eq_true_eq,decide_eq_true_eq] at hx ⊢
      omega
     rw[if_pos rfl,if_neg (by rw[this];simp)];omega
theorem vf (x:Int):tg N lo hi w [x]=I6 N lo hi w (fun _=>false) x:=ir N (fun i _=>by
 have e:jl lo hi [x] i=jQ lo hi x i:=by unfold jl;simp
 rw[e]
 cases jQ lo hi x i<;>simp)
end
structure Tb (N:Nat) (lo hi w:Nat→Int) (P:Nat→Int) (m K:Nat) (h:Int→Nat→Bool) (g:Int→Nat→Int) (b:Int→Nat→Int):Prop where
 at0:h (-1) 0=true∧g (-1) 0=0
 from_:∀ p n,h p n=true→(p=-1∧n=0)∨(0≤p∧p<m∧1≤n∧n≤K∧-1≤b p n∧b p n<p∧h (b p n) (n-1)=true∧g p n=g (b p n) (n-1)+I6 N lo hi w (if b p n=-1 then fun _=>false else jQ lo hi (P (b p n).toNat)) (P p.toNat))
 best:∀ (f:Int) (p n:Nat),-1≤f→f<p→p<m→n<K→h f n=true→h p (n+1)=true∧g f n+I6 N lo hi w (if f=-1 then fun _=>false else jQ lo hi (P f.toNat)) (P p)≤g p (n+1)
section
variable {N:Nat} {lo hi w:Nat→Int} {P:Nat→Int} {m K:Nat} {h:Int→Nat→Bool} {g:Int→Nat→Int} {b:Int→Nat→Int}
def yR (P:Nat→Int) (b:Int→Nat→Int):Nat→Int→List Int
 | 0,_=>[]
 | n+1,p=>yR P b n (b p (n+1))++[P p.toNat]
theorem kR (P:Nat→Int) (b:Int→Nat→Int):∀ n p,(yR P b n p).length=n
 | 0,_=>rfl
 | n+1,p=>by
   show (yR P b n (b p (n+1))++[P p.toNat]).length=n+1
   rw[List.length_append,kR P b n];rfl
theorem wu (t:Tb N lo hi w P m K h g b) {p:Int} (hp:h p 0=true):p=-1:=by
 rcases t.from_ p 0 hp with ⟨a,_⟩ | ⟨_,_,a,_⟩
 · exact a
 · omega
theorem Ez (t:Tb N lo hi w P m K h g b) (hP:∀ i j,i<j→j<m→P i<P j):∀ n p,h p n=true→tg N lo hi w (yR P b n p)=g p n∧(∀ x ∈ yR P b n p,∃ i,i<m∧(i:Int)≤p∧x=P i)∧(yR P b n p).Pairwise (· < ·)∧(1≤n→0≤p∧p<m)
 | 0,p,hp=>by
   have:=wu t hp
   subst this
   exact ⟨by rw[t.at0.2];exact rq,fun x hx=>(List.not_mem_nil hx).elim,List.Pairwise.nil,fun h=>by omega⟩
 | n + 1,p,hp=>by
   rcases t.from_ p (n+1) hp with ⟨_,a⟩ | ⟨p0,pm,_,_,b1,b2,hb,hg⟩
   · omega
   · rw[Nat.add_sub_cancel] at hb hg
     obtain ⟨i1,i2,i3,i4⟩:=Ez t hP n (b p (n+1)) hb
     have hall:∀ x ∈ yR P b n (b p (n+1)),x<P p.toNat:=fun x hx=>by
      obtain ⟨i,h1,h2,rfl⟩:=i2 x hx
      exact hP i p.toNat (by omega) (by omega)
     refine ⟨?_,fun x hx=>?_,List.pairwise_append.2 ⟨i3,List.pairwise_singleton _ _,fun x hx y hy=>by rw[List.mem_singleton.1 hy];exact hall x hx⟩,fun _=>⟨p0,pm⟩⟩
     · show tg N lo hi w (yR P b n (b p (n+1))++[P p.toNat])=_
       rw[hg]
       cases n with
       | zero =>
         have:=wu t hb
         rw[this,if_pos rfl,t.at0.2,Int.zero_add]
         exact vf _
       | succ n =>
         have hb0:=(i4 (by omega)).1
         rw[if_neg (by omega),← i1]
         refine yP (a:=P (b p (n+1+1)).toNat) ?_ (fun y hy=>?_) ?_
         · show _ ∈ yR P b n _++[P (b p (n+1+1)).toNat]
           simp
         · obtain ⟨i,h1,h2,rfl⟩:=i2 y hy
           by_cases e:i=(b p (n+1+1)).toNat
           · rw[e];exact Int.le_refl _
           · exact Int.le_of_lt (hP _ _ (by omega) (by have:=(i4 (by omega)).2;omega))
         · exact Int.le_of_lt (hP _ _ (by omega) (by omega))
     · rcases List.mem_append.1 hx with hx | hx
       · obtain ⟨i,h1,h2,h3⟩:=i2 x hx
         exact ⟨i,h1,by omega,h3⟩
       · exact ⟨p.toNat,by omega,by omega,List.mem_singleton.1 hx⟩
theorem GN (t:Tb N lo hi w P m K h g b) (hP:∀ i j,i<j→j<m→P i<P j):∀ (js:List Nat) (p:Nat),(js++[p]).Pairwise (· < ·)→(∀ j ∈ js++[p],j<m)→js.length<K→h p (js.length+1)=true∧tg N lo hi w ((js++[p]).map P)≤g p (js.length+1):=by
 intro js
 induction hl:js.length generalizing js with
 | zero =>
   intro p _ hm hK
   have:js=[]:=List.length_eq_zero_iff.1 hl
   subst this
   obtain ⟨a,c⟩:=t.best (-1) p 0 (by omega) (by omega) (hm p (by simp)) hK t.at0.1
   refine ⟨a,?_⟩
   rw[if_pos rfl,t.at0.2,Int.zero_add] at c
   have e2:(([]:List Nat)++[p]).map P=[P p]:=rfl
   rw[e2,vf]
   exact c
 | succ n ih =>
   intro p hp hm hK
   obtain ⟨ks,q,rfl⟩:∃ ks q,js=ks++[q]:=by
    have hne:js≠[]:=by intro e;rw[e] at hl;cases hl
    exact ⟨js.dropLast,js.getLast hne,(List.dropLast_concat_getLast hne).symm⟩
   have hkl:ks.length=n:=by simpa using hl
   obtain ⟨hp1,_,hp3⟩:=List.pairwise_append.1 hp
   obtain ⟨a,c⟩:=ih ks hkl q hp1 (fun j hj=>hm j (List.mem_append_left _ hj)) (by omega)
   have hqp:q<p:=hp3 q (by simp) p (by simp)
   have hpm:=hm p (by simp)
   obtain ⟨d,e⟩:=t.best (q:Int) p (n+1) (by omega) (by omega) hpm hK a
   refine ⟨d,?_⟩
   rw[if_neg (by omega),Int.toNat_natCast] at e
   have hw:=yP (N:=N) (lo:=lo) (hi:=hi) (w:=w) (S:=(ks++[q]).map P) (a:=P q) (x:=P p) (by simp) (fun y hy=>by
    obtain ⟨j,hj,rfl⟩:=List.mem_map.1 hy
    rcases List.mem_append.1 hj with hj | hj
    · exact Int.le_of_lt (hP _ _ ((List.pairwise_append.1 hp1).2.2 j hj q (by simp)) (by omega))
    · rw[List.mem_singleton.1 hj];exact Int.le_refl _) (Int.le_of_lt (hP _ _ hqp hpm))
   rw[show ((ks++[q])++[p]).map P=(ks++[q]).map P++[P p] by simp,hw]
   omega
end

theorem sq {α:Type} (p:α→Prop) (v:α→Int):∀ L:List α,(∃ y ∈ L,p y)→∃ y ∈ L,p y∧∀ z ∈ L,p z→v y≤v z
 | [],h=>by obtain ⟨y,hy,_⟩:=h;cases hy
 | a :: L,h=>by
   by_cases hL:∃ y ∈ L,p y
   · obtain ⟨y,y1,y2,y3⟩:=sq p v L hL
     by_cases ha:p a∧v a≤v y
     · refine ⟨a,List.mem_cons_self,ha.1,fun z hz pz=>?_⟩
       rcases List.mem_cons.1 hz with rfl | hz
       · exact Int.le_refl _
       · exact Int.le_trans ha.2 (y3 z hz pz)
     · refine ⟨y,List.mem_cons_of_mem _ y1,y2,fun z hz pz=>?_⟩
       rcases List.mem_cons.1 hz with rfl | hz
       · by_cases h2:v z≤v y
         · exact (ha ⟨pz,h2⟩).elim
         · omega
       · exact y3 z hz pz
   · obtain ⟨y,hy,py⟩:=h
     rcases List.mem_cons.1 hy with rfl | hy
     · refine ⟨y,List.mem_cons_self,py,fun z hz pz=>?_⟩
       rcases List.mem_cons.1 hz with rfl | hz
       · exact Int.le_refl _
       · exact (hL ⟨z,hz,pz⟩).elim
     · exact (hL ⟨y,hy,py⟩).elim
theorem sM {α:Type} [DecidableEq α] (f:Int→α) (L:List α) (hL:L.Nodup):∀ S:List Int,(L.filter fun y=>S.any fun x=>decide (f x=y)).length≤S.length
 | []=>by simp
 | x :: S=>by
   have ih:=sM f L hL S
   have h1:∀ L:List α,L.Nodup→(L.filter fun y=>(x::S).any fun x=>decide (f x=y)).length≤(L.filter fun y=>S.any fun x=>decide (f x=y)).length+(if f x ∈ L then 1 else 0):=by
    intro L
    induction L with
    | nil=>intro _;simp
    | cons a L ihL =>
      intro hn
      rw[List.nodup_cons] at hn
      have:=ihL hn.2
      rw[List.filter_cons,List.filter_cons]
      by_cases ha:f x=a
      · have hna:f x ∉ L:=by rw[ha];exact hn.1
        rw[if_neg hna] at this
        rw[if_pos (show f x ∈ a::L by rw[ha];exact List.mem_cons_self)]
        split<;>split<;>(try simp only[List.length_cons])<;>omega
      · have e:((x::S).any fun x=>decide (f x=a))=S.any fun x=>decide (f x=a):=by
         rw[List.any_cons,show decide (f x=a)=false from decide_eq_false ha,Bool.false_or]
        rw[e]
        have e2:(if f x ∈ a::L then 1 else 0)=(if f x ∈ L then 1 else 0):=by
         by_cases hm:f x ∈ L
         · rw[if_pos hm,if_pos (List.mem_cons_of_mem _ hm)]
         · rw[if_neg hm,if_neg (by rw[List.mem_cons];exact fun h=>h.elim ha hm)]
        rw[e2]
        split<;>(try simp only[List.length_cons])<;>omega
   have:=h1 L hL
   rw[List.length_cons]
   split at this<;>omega
section
variable {N:Nat} {lo hi w:Nat→Int}
theorem Fx {P:Nat→Int} {m:Nat} (hc:∀ i,i<N→lo i≤hi i→∃ j,j<m∧P j=lo i) (S:List Int):∃ js:List Nat,js.Pairwise (· < ·)∧(∀ j ∈ js,j<m)∧js.length≤S.length∧∀ i,i<N→jl lo hi S i=true→jl lo hi (js.map P) i=true:=by
 have hf:∀ x:Int,∃ j:Nat,(∃ j ∈ List.range m,P j≤x)→j ∈ List.range m∧P j≤x∧∀ z ∈ List.range m,P z≤x→-P j≤-P z:=fun x=>by
  by_cases h:∃ j ∈ List.range m,P j≤x
  · obtain ⟨j,a⟩:=sq (fun j=>P j≤x) (fun j=>-P j) (List.range m) h
    exact ⟨j,fun _=>a⟩
  · exact ⟨0,fun c=>(h c).elim⟩
 let f:Int→Nat:=fun x=>Classical.choose (hf x)
 have hf2:∀ x,(∃ j ∈ List.range m,P j≤x)→f x ∈ List.range m∧P (f x)≤x∧∀ z ∈ List.range m,P z≤x→-P (f x)≤-P z:=fun x=>Classical.choose_spec (hf x)
 refine ⟨(List.range m).filter fun y=>S.any fun x=>decide (f x=y),List.Pairwise.filter _ List.pairwise_lt_range,fun j hj=>List.mem_range.1 (List.mem_filter.1 hj).1,sM f _ List.nodup_range S,fun i hi' hs=>?_⟩
 obtain ⟨x,hx,x1,x2⟩:=jR.1 hs
 obtain ⟨j,hj,hP⟩:=hc i hi' (by omega)
 obtain ⟨a1,a2,a3⟩:=hf2 x ⟨j,List.mem_range.2 hj,by omega⟩
 have:=a3 j (List.mem_range.2 hj) (by omega)
 refine jR.2 ⟨P (f x),List.mem_map.2 ⟨f x,List.mem_filter.2 ⟨a1,List.any_eq_true.2 ⟨x,hx,by simp⟩⟩,rfl⟩,by omega,by omega⟩
theorem Fw {L:List Int} (hn:L.Nodup) (hc:∀ i,i<N→hi i ∈ L) (S:List Int):∃ q:Int→Bool,(L.filter q).length≤S.length∧∀ i,i<N→jl lo hi S i=true→jl lo hi (L.filter q) i=true:=by
 have hf:∀ x:Int,∃ y:Int,(∃ y ∈ L,x≤y)→y ∈ L∧x≤y∧∀ z ∈ L,x≤z→y≤z:=fun x=>by
  by_cases h:∃ y ∈ L,x≤y
  · obtain ⟨j,a⟩:=sq (fun y=>x≤y) (fun y=>y) L h
    exact ⟨j,fun _=>a⟩
  · exact ⟨0,fun c=>(h c).elim⟩
 let f:Int→Int:=fun x=>Classical.choose (hf x)
 have hf2:∀ x,(∃ y ∈ L,x≤y)→f x ∈ L∧x≤f x∧∀ z ∈ L,x≤z→f x≤z:=fun x=>Classical.choose_spec (hf x)
 refine ⟨fun y=>S.any fun x=>decide (f x=y),sM f L hn S,fun i hi' hs=>?_⟩
 obtain ⟨x,hx,x1,x2⟩:=jR.1 hs
 obtain ⟨a1,a2,a3⟩:=hf2 x ⟨hi i,hc i hi',by omega⟩
 have:=a3 (hi i) (hc i hi') (by omega)
 exact jR.2 ⟨f x,List.mem_filter.2 ⟨a1,List.any_eq_true.2 ⟨x,hx,by simp⟩⟩,by omega,by omega⟩
theorem GO {P:Nat→Int} {m K:Nat} {h:Int→Nat→Bool} {g:Int→Nat→Int} {b:Int→Nat→Int} (t:Tb N lo hi w P m K h g b) (hP:∀ i j,i<j→j<m→P i<P j) (hw:∀ i,i<N→0≤w i) (hc:∀ i,i<N→lo i≤hi i→∃ j,j<m∧P j=lo i) {p:Int} {n:Nat} (hp:h p n=true) (hn:n≤K) (hg:∀ q k,h q k=true→g q k≤g p n):ry N lo hi w K (g p n):=by
 refine ⟨⟨yR P b n p,by rw[kR];exact hn,(Ez t hP n p hp).1⟩,fun S hS=>?_⟩
 obtain ⟨js,j1,j2,j3,j4⟩:=Fx (lo:=lo) (hi:=hi) hc S
 refine Int.le_trans (EG hw j4) ?_
 rcases Nat.eq_zero_or_pos js.length with h0 | h0
 · rw[List.length_eq_zero_iff.1 h0]
   have:=hg (-1) 0 t.at0.1
   rw[t.at0.2] at this
   exact (rq (N:=N) (lo:=lo) (hi:=hi) (w:=w)).symm ▸ this
 · obtain ⟨ks,q,rfl⟩:∃ ks q,js=ks++[q]:=by
    have hne:js≠[]:=by intro e;rw[e] at h0;cases h0
    exact ⟨js.dropLast,js.getLast hne,(List.dropLast_concat_getLast hne).symm⟩
   rw[List.length_append,List.length_singleton] at j3
   obtain ⟨a,c⟩:=GN t hP ks q j1 j2 (by omega)
   exact Int.le_trans c (hg _ _ a)
end
end Go.Eng
end
section
namespace Go.Eng
def lg (L:Nat→Int) (b:Nat):Nat→List Int
 | 0=>[]
 | i+1=>if decide (b / 2 ^ i % 2=1)=true then lg L b i++[L i] else lg L b i
theorem vV (L:Nat→Int) (b:Nat):∀ i,(lg L b i).length≤i
 | 0=>Nat.le_refl _
 | i+1=>by
   have:=vV L b i
   unfold lg
   split
   · rw[List.length_append,List.length_singleton];omega
   · omega
theorem uQ {L:Nat→Int} {b b':Nat}:∀ i,(∀ j,j<i→b.testBit j=b'.testBit j)→lg L b i=lg L b' i
 | 0,_=>rfl
 | i+1,h=>by
   have e:=h i (by omega)
   rw[Nat.testBit_eq_decide_div_mod_eq,Nat.testBit_eq_decide_div_mod_eq] at e
   unfold lg
   rw[e,uQ i (fun j hj=>h j (by omega))]
theorem sO (L:Nat→Int) (b i:Nat):lg L b (i+1)=if decide (b / 2 ^ i % 2=1)=true then lg L b i++[L i] else lg L b i:=rfl
theorem D7 (L:Nat→Int) (q:Int→Bool):∀ i,∃ b,b<2 ^ i∧((List.range i).map L).filter q=lg L b i
 | 0=>⟨0,by omega,rfl⟩
 | i + 1=>by
   obtain ⟨b,hb,e⟩:=D7 L q i
   have hb0:b / 2 ^ i=0:=Nat.div_eq_of_lt hb
   rw[List.range_succ,List.map_append,List.filter_append,e]
   by_cases h:q (L i)=true
   · refine ⟨2 ^ i+b,by rw[Nat.pow_succ];omega,?_⟩
     have h1:(2 ^ i+b) / 2 ^ i=1:=by rw[Nat.add_div_left _ (Nat.two_pow_pos i),hb0]
     rw[sO,h1,if_pos (by decide),uQ i (fun j hj=>Nat.testBit_two_pow_add_gt hj b)]
     simp[h]
   · refine ⟨b,by rw[Nat.pow_succ];omega,?_⟩
     rw[sO,hb0,if_neg (by decide)]
     simp[h]
section
variable (N:Nat) (lo hi w:Nat→Int) (L:Nat→Int) (m:Nat)
def o9:Nat→Nat→Int
 | 0,_=>0
 | b+1,n=>if (lg L b m).length=n then max (o9 b n) (tg N lo hi w (lg L b m)) else o9 b n
def DN (B:Nat):Nat→Int
 | 0=>o9 N lo hi w L m B 0
 | n+1=>max (o9 N lo hi w L m B (n+1)) (DN B n)
end
section
variable {N:Nat} {lo hi w:Nat→Int} {L:Nat→Int} {m:Nat}
theorem DM (n:Nat):∀ B b,b<B→(lg L b m).length=n→tg N lo hi w (lg L b m)≤o9 N lo hi w L m B n
 | 0,b,h,_=>by omega
 | B + 1,b,h,hl=>by
   unfold o9
   by_cases e:b=B
   · subst e;rw[if_pos hl];omega
   · have:=DM n B b (by omega) hl
     split<;>omega
theorem zy (n:Nat):∀ B,∃ S:List Int,S.length≤n∧tg N lo hi w S=o9 N lo hi w L m B n
 | 0=>⟨[],Nat.zero_le _,rq⟩
 | B + 1=>by
   obtain ⟨S,a,b⟩:=zy n B
   unfold o9
   split
   · rename_i h
     rcases Int.le_total (o9 N lo hi w L m B n) (tg N lo hi w (lg L B m)) with c | c
     · exact ⟨lg L B m,by omega,by omega⟩
     · exact ⟨S,a,by omega⟩
   · exact ⟨S,a,b⟩
theorem xU (B:Nat) {n:Nat}:∀ k,DN N lo hi w L m B n≤DN N lo hi w L m B (n+k)
 | 0=>Int.le_refl _
 | k+1=>by
   have:=xU B (n:=n) k
   show _≤max (o9 N lo hi w L m B (n+k+1)) (DN N lo hi w L m B (n+k))
   omega
theorem FR (B n:Nat):o9 N lo hi w L m B n≤DN N lo hi w L m B n:=by
 cases n with
 | zero=>exact Int.le_refl _
 | succ n=>show _≤max _ _;omega
theorem DO (B:Nat):∀ n,∃ S:List Int,S.length≤n∧tg N lo hi w S=DN N lo hi w L m B n
 | 0=>zy 0 B
 | n+1=>by
   obtain ⟨S,a,b⟩:=DO B n
   obtain ⟨T,c,d⟩:=zy (N:=N) (lo:=lo) (hi:=hi) (w:=w) (L:=L) (m:=m) (n+1) B
   rcases Int.le_total (o9 N lo hi w L m B (n+1)) (DN N lo hi w L m B n) with e | e
   · exact ⟨S,by omega,by show _=max _ _;omega⟩
   · exact ⟨T,c,by show _=max _ _;omega⟩
theorem DP (hL:∀ i j,i<m→j<m→L i=L j→i=j) (hc:∀ i,i<N→∃ j,j<m∧L j=hi i) (hw:∀ i,i<N→0≤w i) (n:Nat):ry N lo hi w n (DN N lo hi w L m (2 ^ m) n):=by
 refine ⟨DO _ n,fun S hS=>?_⟩
 have hn:((List.range m).map L).Nodup:=by
  rw[List.nodup_iff_pairwise_ne,List.pairwise_map]
  refine List.Pairwise.imp_of_mem ?_ List.nodup_range
  intro a b ha hb hne e
  exact hne (hL a b (List.mem_range.1 ha) (List.mem_range.1 hb) e)
 obtain ⟨q,h1,h2⟩:=Fw (lo:=lo) (hi:=hi) (N:=N) hn (fun i hi'=>by
  obtain ⟨j,a,b⟩:=hc i hi'
  exact List.mem_map.2 ⟨j,List.mem_range.2 a,b⟩) S
 obtain ⟨b,hb,e⟩:=D7 L q m
 rw[e] at h1 h2
 refine Int.le_trans (EG hw h2) (Int.le_trans (DM _ _ b hb rfl) (Int.le_trans (FR _ _) ?_))
 have:=xU (N:=N) (lo:=lo) (hi:=hi) (w:=w) (L:=L) (m:=m) (2 ^ m) (n:=(lg L b m).length) (n-(lg L b m).length)
 rwa [Nat.add_sub_cancel' (by omega)] at this
end
end Go.Eng
end
section
namespace Go.Eng
section
variable {N:Nat} {lo hi w lo' hi' w':Nat→Int}
end
end Go.Eng
end
section
namespace Go.Eng
section
variable {N:Nat} {lo hi w:Nat→Int}
end

section
variable {N:Nat} {lo hi w:Nat→Int} {lam:Int}
end
end Go.Eng
end
section
namespace Go.Eng
structure MS where
 h:List Int→Bool
 g:List Int→Int
 c:Nat
 h2:List Int→Bool
 g2:List Int→Int
 c2:Nat
section
variable (a:Int→Int→Int)
def He (p f n:Int) (s:MS):Bool:=!s.h [p,n+1] || decide (s.g [p,n+1]<s.g [f,n]+a f p)
def l9 (p f n:Int) (s:MS):MS :=
 if s.h [f,n]=true then
  if He a p f n s=true then
   ⟨dh s.h [p,n+1] true,eZ s.g [p,n+1] (s.g [f,n]+a f p),nU (s.h [p,n+1]) s.c,
    dh (dh s.h2 [p,n+1] false) [p,n+1] true,eZ (eZ s.g2 [p,n+1] 0) [p,n+1] f,nU (dh s.h2 [p,n+1] false [p,n+1]) (wK (s.h2 [p,n+1]) s.c2)⟩
  else s
 else s
def gy (p f:Int):Nat→MS→MS
 | 0,s=>s
 | n+1,s=>l9 a p f n (gy p f n s)
def kZ (K:Nat) (p:Int):Nat→MS→MS
 | 0,s=>s
 | k+1,s=>gy a p ((k:Int)-1) K (kZ K p k s)
def fy (K:Nat):Nat→MS→MS
 | 0,s=>s
 | p+1,s=>kZ a K p (p+1) (fy K p s)
end
def cF:MS:=⟨dh (fun _=>false) [-1,0] true,eZ (fun _=>0) [-1,0] 0,nU false 0,fun _=>false,fun _=>0,0⟩
section
variable {a:Int→Int→Int}
theorem uX {p f n:Int} {s:MS} {q m:Int} (h:¬(q=p∧m=n+1)):(l9 a p f n s).h [q,m]=s.h [q,m]∧(l9 a p f n s).g [q,m]=s.g [q,m]∧(l9 a p f n s).g2 [q,m]=s.g2 [q,m]:=by
 have hne:([q,m]:List Int)≠[p,n+1]:=by simpa using h
 unfold l9
 split
 · split
   · simp only[dh,eZ,if_neg hne];exact ⟨trivial,trivial,trivial⟩
   · exact ⟨rfl,rfl,rfl⟩
 · exact ⟨rfl,rfl,rfl⟩
theorem my {p f q m:Int} {s:MS}:∀ n:Nat,¬(q=p∧1≤m∧m≤n)→(gy a p f n s).h [q,m]=s.h [q,m]∧(gy a p f n s).g [q,m]=s.g [q,m]∧(gy a p f n s).g2 [q,m]=s.g2 [q,m]
 | 0,_=>⟨rfl,rfl,rfl⟩
 | n+1,h=>by
   obtain ⟨i1,i2,i3⟩:=my (p:=p) (f:=f) (q:=q) (m:=m) (s:=s) n (fun c=>h ⟨c.1,c.2.1,by omega⟩)
   obtain ⟨e1,e2,e3⟩:=uX (a:=a) (p:=p) (f:=f) (n:=n) (s:=gy a p f n s) (q:=q) (m:=m) (fun c=>h ⟨c.1,by omega,by omega⟩)
   exact ⟨e1.trans i1,e2.trans i2,e3.trans i3⟩
theorem IZ {p f n:Int} {s:MS} (hf:f<p):(s.h [f,n]=false→(l9 a p f n s).h [p,n+1]=s.h [p,n+1]∧(l9 a p f n s).g [p,n+1]=s.g [p,n+1]∧(l9 a p f n s).g2 [p,n+1]=s.g2 [p,n+1]) ∧
 (s.h [f,n]=true→(l9 a p f n s).h [p,n+1]=true∧((l9 a p f n s).g [p,n+1]=s.g [f,n]+a f p∧(l9 a p f n s).g2 [p,n+1]=f∧(s.h [p,n+1]=true→s.g [p,n+1]<s.g [f,n]+a f p) ∨
   s.h [p,n+1]=true∧(l9 a p f n s).g [p,n+1]=s.g [p,n+1]∧(l9 a p f n s).g2 [p,n+1]=s.g2 [p,n+1]∧s.g [f,n]+a f p≤s.g [p,n+1])):=by
 constructor
 · intro h
   unfold l9
   rw[if_neg (by rw[h];decide)]
   exact ⟨rfl,rfl,rfl⟩
 · intro h
   unfold l9
   rw[if_pos h]
   split
   · rename_i hb
     refine ⟨by simp[dh],.inl ⟨by simp[eZ],by simp[eZ],fun h2=>?_⟩⟩
     unfold He at hb
     rw[h2] at hb
     simpa using hb
   · rename_i hb
     have hb:He a p f n s=false:=by simpa using hb
     unfold He at hb
     rw[Bool.or_eq_false_iff,Bool.not_eq_false',decide_eq_false_iff_not] at hb
     exact ⟨hb.1,.inr ⟨hb.1,rfl,rfl,by omega⟩⟩
theorem Ew {p f:Int} {s:MS} (hf:f<p):∀ (K n:Nat),n<K→(s.h [f,n]=false→(gy a p f K s).h [p,n+1]=s.h [p,n+1]∧(gy a p f K s).g [p,n+1]=s.g [p,n+1]∧(gy a p f K s).g2 [p,n+1]=s.g2 [p,n+1]) ∧
 (s.h [f,n]=true→(gy a p f K s).h [p,n+1]=true∧((gy a p f K s).g [p,n+1]=s.g [f,n]+a f p∧(gy a p f K s).g2 [p,n+1]=f∧(s.h [p,n+1]=true→s.g [p,n+1]<s.g [f,n]+a f p) ∨
   s.h [p,n+1]=true∧(gy a p f K s).g [p,n+1]=s.g [p,n+1]∧(gy a p f K s).g2 [p,n+1]=s.g2 [p,n+1]∧s.g [f,n]+a f p≤s.g [p,n+1]))
 | 0,n,h=>by omega
 | K + 1,n,h=>by
   by_cases e:n=K
   · subst e
     obtain ⟨k1,k2⟩:=IZ (a:=a) (p:=p) (f:=f) (n:=n) (s:=gy a p f n s) hf
     obtain ⟨o1,o2,o3⟩:=my (a:=a) (p:=p) (f:=f) (q:=f) (m:=(n:Int)) (s:=s) n (fun c=>by omega)
     obtain ⟨u1,u2,u3⟩:=my (a:=a) (p:=p) (f:=f) (q:=p) (m:=(n:Int)+1) (s:=s) n (fun c=>by omega)
     rw[o1,u1,u2,u3] at k1
     rw[o1,o2,u1,u2,u3] at k2
     exact ⟨k1,k2⟩
   · have ih:=Ew hf (s:=s) K n (by omega)
     obtain ⟨e1,e2,e3⟩:=uX (a:=a) (p:=p) (f:=f) (n:=K) (s:=gy a p f K s) (q:=p) (m:=(n:Int)+1) (fun c=>by omega)
     show (_→(l9 a p f K (gy a p f K s)).h _=_∧(l9 a p f K (gy a p f K s)).g _=_∧(l9 a p f K (gy a p f K s)).g2 _=_)∧(_→(l9 a p f K (gy a p f K s)).h _=_∧((l9 a p f K (gy a p f K s)).g _=_∧(l9 a p f K (gy a p f K s)).g2 _=_∧_∨_∧(l9 a p f K (gy a p f K s)).g _=_∧(l9 a p f K (gy a p f K s)).g2 _=_∧_))
     rw[e1,e2,e3]
     exact ih
theorem mw {K:Nat} {p q m:Int} {s:MS} (h:¬(q=p∧1≤m∧m≤K)):∀ k:Nat,(kZ a K p k s).h [q,m]=s.h [q,m]∧(kZ a K p k s).g [q,m]=s.g [q,m]∧(kZ a K p k s).g2 [q,m]=s.g2 [q,m]
 | 0=>⟨rfl,rfl,rfl⟩
 | k+1=>by
   obtain ⟨i1,i2,i3⟩:=mw (s:=s) h k
   obtain ⟨e1,e2,e3⟩:=my (a:=a) (p:=p) (f:=(k:Int)-1) (q:=q) (m:=m) (s:=kZ a K p k s) K h
   exact ⟨e1.trans i1,e2.trans i2,e3.trans i3⟩
theorem zV {K:Nat} {p:Nat} {s:MS} {n:Nat} (hn:n<K) (h0:s.h [(p:Int),(n:Int)+1]=false):∀ k:Nat,k≤p+1 →
 ((kZ a K p k s).h [(p:Int),(n:Int)+1]=true→∃ f:Int,-1≤f∧f<(k:Int)-1∧s.h [f,n]=true∧(kZ a K p k s).g [(p:Int),(n:Int)+1]=s.g [f,n]+a f p∧(kZ a K p k s).g2 [(p:Int),(n:Int)+1]=f) ∧
 ∀ f:Int,-1≤f→f<(k:Int)-1→s.h [f,n]=true→(kZ a K p k s).h [(p:Int),(n:Int)+1]=true∧s.g [f,n]+a f p≤(kZ a K p k s).g [(p:Int),(n:Int)+1]
 | 0,_=>⟨(fun h=>by
    have h:s.h [(p:Int),(n:Int)+1]=true:=h
    rw[h0] at h;cases h),(fun f h1 h2=>by omega)⟩
 | k + 1,hk=>by
   obtain ⟨i1,i2⟩:=zV hn h0 k (by omega)
   obtain ⟨o1,o2,_⟩:=mw (a:=a) (K:=K) (p:=p) (q:=(k:Int)-1) (m:=(n:Int)) (s:=s) (fun c=>by omega) k
   obtain ⟨k1,k2⟩:=Ew (a:=a) (p:=p) (f:=(k:Int)-1) (s:=kZ a K p k s) (by omega) K n hn
   rw[o1] at k1 k2
   rw[o2] at k2
   have hkk:((k+1:Nat):Int)-1=(k:Int):=by omega
   rw[hkk]
   cases hc:s.h [(k:Int)-1,(n:Int)] with
   | false =>
     obtain ⟨e1,e2,e3⟩:=k1 hc
     show ((gy a p ((k:Int)-1) K (kZ a K p k s)).h _=true→∃ f:Int,_∧_∧_∧(gy a p ((k:Int)-1) K (kZ a K p k s)).g _=_∧(gy a p ((k:Int)-1) K (kZ a K p k s)).g2 _=_)∧∀ f:Int,_→_→_→(gy a p ((k:Int)-1) K (kZ a K p k s)).h _=true∧_≤(gy a p ((k:Int)-1) K (kZ a K p k s)).g _
     rw[e1,e2,e3]
     refine ⟨fun h=>?_,fun f f1 f2 f3=>?_⟩
     · obtain ⟨f,f1,f2,f3⟩:=i1 h
       exact ⟨f,f1,by omega,f3⟩
     · refine i2 f f1 ?_ f3
       have:f≠(k:Int)-1:=fun e=>by rw[e,hc] at f3;cases f3
       omega
   | true =>
     obtain ⟨e1,e2⟩:=k2 hc
     show ((gy a p ((k:Int)-1) K (kZ a K p k s)).h _=true→∃ f:Int,_∧_∧_∧(gy a p ((k:Int)-1) K (kZ a K p k s)).g _=_∧(gy a p ((k:Int)-1) K (kZ a K p k s)).g2 _=_)∧∀ f:Int,_→_→_→(gy a p ((k:Int)-1) K (kZ a K p k s)).h _=true∧_≤(gy a p ((k:Int)-1) K (kZ a K p k s)).g _
     rw[e1]
     rcases e2 with ⟨g1,g2,g3⟩ | ⟨g0,g1,g2,g3⟩
     · rw[g1,g2]
       refine ⟨fun _=>⟨(k:Int)-1,by omega,by omega,hc,rfl,rfl⟩,fun f f1 f2 f3=>⟨rfl,?_⟩⟩
       by_cases e:f=(k:Int)-1
       · rw[e];exact Int.le_refl _
       · obtain ⟨j1,j2⟩:=i2 f f1 (by omega) f3
         have:=g3 j1
         omega
     · rw[g1,g2]
       refine ⟨fun _=>?_,fun f f1 f2 f3=>⟨rfl,?_⟩⟩
       · obtain ⟨f,f1,f2,f3⟩:=i1 g0
         exact ⟨f,f1,by omega,f3⟩
       · by_cases e:f=(k:Int)-1
         · rw[e];exact g3
         · exact (i2 f f1 (by omega) f3).2
theorem zW {K:Nat}:∀ m:Nat,
 (∀ q n:Int,(fy a K m cF).h [q,n]=true→(q=-1∧n=0)∨(0≤q∧q<m∧1≤n∧n≤K))∧((fy a K m cF).h [-1,0]=true∧(fy a K m cF).g [-1,0]=0) ∧
 (∀ p n:Nat,p<m→n<K→(fy a K m cF).h [(p:Int),(n:Int)+1]=true→∃ f:Int,-1≤f∧f<p∧(fy a K m cF).h [f,n]=true∧(fy a K m cF).g [(p:Int),(n:Int)+1]=(fy a K m cF).g [f,n]+a f p∧(fy a K m cF).g2 [(p:Int),(n:Int)+1]=f) ∧
 ∀ (f:Int) (p n:Nat),p<m→n<K→-1≤f→f<p→(fy a K m cF).h [f,n]=true→(fy a K m cF).h [(p:Int),(n:Int)+1]=true∧(fy a K m cF).g [f,n]+a f p≤(fy a K m cF).g [(p:Int),(n:Int)+1]
 | 0=>by
   refine ⟨fun q n h=>?_,⟨rfl,rfl⟩,fun p n hp=>by omega,fun f p n hp=>by omega⟩
   have h:dh (fun _=>false) [-1,0] true [q,n]=true:=h
   unfold dh at h
   split at h
   · rename_i e;simp at e;exact .inl e
   · cases h
 | m + 1 => by
   obtain ⟨i1,i2,i3,i4⟩:=zW (K:=K) m
   have oth:∀ q n:Int,q≠m→(fy a K (m+1) cF).h [q,n]=(fy a K m cF).h [q,n]∧(fy a K (m+1) cF).g [q,n]=(fy a K m cF).g [q,n]∧(fy a K (m+1) cF).g2 [q,n]=(fy a K m cF).g2 [q,n]:=fun q n hq=>mw (fun c=>hq c.1) (m+1)
   have abs:∀ n:Int,(fy a K m cF).h [(m:Int),n]=false:=fun n=>by
    cases h:(fy a K m cF).h [(m:Int),n] with
    | false=>rfl
    | true=>rcases i1 _ _ h with ⟨a,_⟩ | ⟨_,a,_⟩<;>omega
   refine ⟨fun q n h=>?_,?_,fun p n hp hn h=>?_,fun f p n hp hn f1 f2 h=>?_⟩
   · by_cases e:q=m
     · subst e
       by_cases hn:1≤n∧n≤K
       · exact .inr ⟨by omega,by omega,hn.1,hn.2⟩
       · have:=(mw (a:=a) (K:=K) (p:=m) (q:=m) (m:=n) (s:=fy a K m cF) (fun c=>hn c.2) (m+1)).1
         have h:(kZ a K m (m+1) (fy a K m cF)).h [(m:Int),n]=true:=h
         rw[this,abs] at h;cases h
     · rw[(oth q n e).1] at h
       rcases i1 q n h with h | h
       · exact .inl h
       · exact .inr (by omega)
   · rw[(oth (-1) 0 (by omega)).1,(oth (-1) 0 (by omega)).2.1];exact i2
   · by_cases e:p=m
     · subst e
       obtain ⟨f,f1,f2,f3,f4,f5⟩:=(zV (a:=a) (K:=K) (p:=p) (s:=fy a K p cF) hn (abs _) (p+1) (Nat.le_refl _)).1 h
       refine ⟨f,f1,by omega,?_,?_,f5⟩
       · rw[(oth f n (by omega)).1];exact f3
       · rw[(oth f n (by omega)).2.1];exact f4
     · rw[(oth p _ (by omega)).1] at h
       obtain ⟨f,f1,f2,f3,f4,f5⟩:=i3 p n (by omega) hn h
       refine ⟨f,f1,f2,?_,?_,?_⟩
       · rw[(oth f n (by omega)).1];exact f3
       · rw[(oth f n (by omega)).2.1,(oth p _ (by omega)).2.1];exact f4
       · rw[(oth p _ (by omega)).2.2];exact f5
   · rw[(oth f n (by omega)).1] at h
     rw[(oth f n (by omega)).2.1]
     by_cases e:p=m
     · subst e
       exact (zV (a:=a) (K:=K) (p:=p) (s:=fy a K p cF) hn (abs _) (p+1) (Nat.le_refl _)).2 f f1 (by omega) h
     · rw[(oth p _ (by omega)).1,(oth p _ (by omega)).2.1]
       exact i4 f p n (by omega) hn f1 f2 h
end
def wB (N:Nat) (lo hi w:Nat→Int) (P:Nat→Int) (f p:Int):Int:=I6 N lo hi w (if f=-1 then fun _=>false else jQ lo hi (P f.toNat)) (P p.toNat)
theorem IY (N:Nat) (lo hi w:Nat→Int) (P:Nat→Int) (m K:Nat):Tb N lo hi w P m K (fun p n=>(fy (wB N lo hi w P) K m cF).h [p,n]) (fun p n=>(fy (wB N lo hi w P) K m cF).g [p,n]) (fun p n=>(fy (wB N lo hi w P) K m cF).g2 [p,n]):=by
 obtain ⟨i1,i2,i3,i4⟩:=zW (a:=wB N lo hi w P) (K:=K) m
 refine ⟨i2,fun p n h=>?_,fun f p n f1 f2 hp hn h=>?_⟩
 · rcases i1 p n h with h | ⟨h1,h2,h3,h4⟩
   · exact .inl ⟨h.1,by omega⟩
   · obtain ⟨q,rfl⟩:=Int.eq_ofNat_of_zero_le h1
     obtain ⟨n,rfl⟩:∃ k,n=k+1:=⟨n-1,by omega⟩
     have h:(fy (wB N lo hi w P) K m cF).h [(q:Int),(n:Int)+1]=true:=h
     obtain ⟨f,f1,f2,f3,f4,f5⟩:=i3 q n (by omega) (by omega) h
     refine .inr ⟨h1,h2,by omega,by omega,?_⟩
     have e1:((n+1:Nat):Int)=(n:Int)+1:=rfl
     simp only[e1,Nat.add_sub_cancel]
     rw[f5]
     exact ⟨f1,f2,f3,f4⟩
 · exact i4 f p n hp hn f1 f2 h
theorem CH {N:Nat} {lo hi w:Nat→Int} {P:Nat→Int} (hw:∀ i,i<N→0≤w i) (f p:Int):0≤wB N lo hi w P f p∧wB N lo hi w P f p≤qM w N :=
 ⟨Eu N (fun i hi2=>by have:=hw i hi2;split<;>omega),zU N (fun i hi2=>by have:=hw i hi2;split<;>omega)⟩
def EP (W:Int) (s:MS):Prop:=∀ q n:Int,s.h [q,n]=true→0≤n∧0≤s.g [q,n]∧s.g [q,n]≤n*W
theorem Lo {a:Int→Int→Int} {W:Int} (ha:∀ f p,0≤a f p∧a f p≤W) {p f n:Int} {s:MS} (h:EP W s):EP W (l9 a p f n s):=by
 by_cases h1:s.h [f,n]=true
 · by_cases h2:He a p f n s=true
   · unfold l9
     rw[if_pos h1,if_pos h2]
     intro q k hq
     dsimp only at hq ⊢
     by_cases e:([q,k]:List Int)=[p,n+1]
     · unfold eZ
       rw[if_pos e]
       simp at e
       obtain ⟨k1,k2,k3⟩:=h f n h1
       have:=ha f p
       rw[e.2,Int.add_mul,Int.one_mul]
       omega
     · unfold dh at hq
       unfold eZ
       rw[if_neg e] at hq ⊢
       exact h q k hq
   · unfold l9
     rw[if_pos h1,if_neg h2]
     exact h
 · unfold l9
   rw[if_neg h1]
   exact h
theorem HD {a:Int→Int→Int} {W:Int} (ha:∀ f p,0≤a f p∧a f p≤W) {p f:Int} {s:MS} (h:EP W s):∀ n,EP W (gy a p f n s)
 | 0=>h
 | n+1=>Lo ha (HD ha h n)
theorem Hz {a:Int→Int→Int} {W:Int} (ha:∀ f p,0≤a f p∧a f p≤W) {K:Nat} {p:Int} {s:MS} (h:EP W s):∀ k,EP W (kZ a K p k s)
 | 0=>h
 | k+1=>HD ha (Hz ha h k) K
theorem HF {a:Int→Int→Int} {W:Int} (ha:∀ f p,0≤a f p∧a f p≤W) {K:Nat}:∀ m,EP W (fy a K m cF)
 | 0 => fun q n h=>by
   have h':dh (fun _=>false) [-1,0] true [q,n]=true:=h
   unfold dh at h'
   split at h'
   · rename_i e
     simp at e
     rw[e.1,e.2]
     exact ⟨Int.le_refl _,Int.le_refl _,by rw[Int.zero_mul];exact Int.le_refl _⟩
   · cases h'
 | m+1=>Hz ha (HF ha m) (m+1)
end Go.Eng
end
section
namespace Go.Eng
def tx (g:List Int→Int) (x y:Int×Int):Bool:=decide (g [y.1,y.2]<g [x.1,x.2]) || (decide (g [x.1,x.2]=g [y.1,y.2]) && (decide (x.2<y.2) || (decide (x.2=y.2) && decide (x.1<y.1))))
def Ao (g:List Int→Int):List (Int×Int)→Int×Int→Int×Int
 | [],b=>b
 | s::r,b=>Ao g r (if tx g s b=true then s else b)
section
variable {g:List Int→Int}
theorem mc {x y:Int×Int}:tx g x y=true↔g [y.1,y.2]<g [x.1,x.2]∨g [x.1,x.2]=g [y.1,y.2]∧(x.2<y.2∨x.2=y.2∧x.1<y.1):=by
 unfold tx
 simp only[Bool.or_eq_true,Bool.and_eq_true,decide_eq_true_eq]
theorem rL {x y:Int×Int}:tx g x y=false↔¬(g [y.1,y.2]<g [x.1,x.2]∨g [x.1,x.2]=g [y.1,y.2]∧(x.2<y.2∨x.2=y.2∧x.1<y.1)):=by
 rw[← mc];simp
theorem Ap {x y:Int×Int} (h:tx g x y=false) (h':tx g y x=false):x=y:=by
 rw[rL] at h h'
 have h1:x.1=y.1∧x.2=y.2:=by omega
 exact Prod.ext h1.1 h1.2
theorem CT (x:Int×Int):tx g x x=false:=by rw[rL];omega
theorem CU {x y z:Int×Int} (h:tx g y x=false) (h':tx g z y=false):tx g z x=false:=by
 rw[rL] at h h' ⊢
 omega
theorem lr:∀ (ks:List (Int×Int)) (b:Int×Int),(Ao g ks b=b∨Ao g ks b ∈ ks)∧∀ s,s=b∨s ∈ ks→tx g s (Ao g ks b)=false
 | [],b=>⟨.inl rfl,fun s h=>by
   rcases h with rfl | h
   · exact CT _
   · cases h⟩
 | k :: ks,b=>by
   show (Ao g ks (if tx g k b=true then k else b)=b∨Ao g ks (if tx g k b=true then k else b) ∈ k::ks)∧∀ s,s=b∨s ∈ k::ks→tx g s (Ao g ks (if tx g k b=true then k else b))=false
   by_cases c:tx g k b=true
   · rw[if_pos c]
     obtain ⟨i1,i2⟩:=lr ks k
     refine ⟨.inr ?_,fun s h=>?_⟩
     · rcases i1 with h | h
       · rw[h];exact List.mem_cons_self
       · exact List.mem_cons_of_mem _ h
     · rcases h with rfl | h
       · refine CU (i2 k (.inl rfl)) ?_
         rw[mc] at c
         rw[rL]
         omega
       · rcases List.mem_cons.1 h with rfl | h
         · exact i2 _ (.inl rfl)
         · exact i2 _ (.inr h)
   · rw[if_neg c]
     obtain ⟨i1,i2⟩:=lr ks b
     refine ⟨?_,fun s h=>?_⟩
     · rcases i1 with h | h
       · exact .inl h
       · exact .inr (List.mem_cons_of_mem _ h)
     · rcases h with rfl | h
       · exact i2 _ (.inl rfl)
       · rcases List.mem_cons.1 h with rfl | h
         · exact CU (i2 b (.inl rfl)) (by simpa using c)
         · exact i2 _ (.inr h)
end
def nH (b:Int→Nat→Int) (n:Nat) (p:Int):Nat→Int
 | 0=>p
 | j+1=>b (nH b n p j) (n-j)
theorem vc (b:Int→Nat→Int) (n:Nat) (p:Int):∀ j,nH b (n+1) p (j+1)=nH b n (b p (n+1)) j
 | 0=>rfl
 | j+1=>by
   show b (nH b (n+1) p (j+1)) (n+1-(j+1))=b (nH b n (b p (n+1)) j) (n-j)
   rw[vc b n p j,show n+1-(j+1)=n-j by omega]
theorem EE (P:Nat→Int) (b:Int→Nat→Int):∀ (n:Nat) (p:Int) (i:Nat),i<n→(yR P b n p).getD i 0=P (nH b n p (n-1-i)).toNat
 | 0,p,i,h=>by omega
 | n + 1,p,i,h=>by
   show (yR P b n (b p (n+1))++[P p.toNat]).getD i 0=_
   have hl:=kR P b n (b p (n+1))
   rw[List.getD_eq_getElem?_getD]
   by_cases e:i<n
   · rw[List.getElem?_append_left (by omega),← List.getD_eq_getElem?_getD,EE P b n _ i e]
     rw[show n+1-1-i=(n-1-i)+1 by omega,vc]
   · obtain rfl:i=n:=by omega
     rw[List.getElem?_append_right (by omega),hl,Nat.sub_self,show i+1-1-i=0 by omega]
     rfl
theorem zZ {N:Nat} {lo hi w:Nat→Int} {P:Nat→Int} {m K:Nat} {h:Int→Nat→Bool} {g:Int→Nat→Int} {b:Int→Nat→Int} (t:Tb N lo hi w P m K h g b) {p:Int} {n:Nat} (hp:h p n=true):∀ j,j≤n→h (nH b n p j) (n-j)=true∧(j<n→0≤nH b n p j∧nH b n p j<m)
 | 0,_=>⟨hp,fun hj=>by
   rcases t.from_ p n hp with ⟨_,a⟩ | ⟨a,a2,_⟩
   · omega
   · exact ⟨a,a2⟩⟩
 | j + 1,hj=>by
   obtain ⟨i1,_⟩:=zZ t hp j (by omega)
   rcases t.from_ _ _ i1 with ⟨_,a⟩ | ⟨_,_,_,_,_,_,k,_⟩
   · omega
   · have k:h (nH b n p (j+1)) (n-j-1)=true:=k
     rw[show n-j-1=n-(j+1) by omega] at k
     refine ⟨k,fun hj2=>?_⟩
     rcases t.from_ _ _ k with ⟨_,a⟩ | ⟨a,a2,_⟩
     · omega
     · exact ⟨a,a2⟩
theorem EA {N:Nat} {lo hi w:Nat→Int} {P:Nat→Int} {m K:Nat} {h:Int→Nat→Bool} {g:Int→Nat→Int} {b:Int→Nat→Int} (t:Tb N lo hi w P m K h g b) {p:Int} {n:Nat} (hp:h p n=true):nH b n p n=-1:=by
 have:=(zZ t hp n (Nat.le_refl _)).1
 rw[Nat.sub_self] at this
 exact wu t this
end Go.Eng
end
