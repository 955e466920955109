/- The engine as a tree: calls that are carried out where they stand, and calls that are known. -/
import Derived.Test.YtigmfpmabgekoaaGreatV9EngTfx2
import Derived.Test.YtigmfpmabgekoaaGreatV9EngOrax2
import Derived.Maps.RangeRun
set_option linter.unusedVariables false
set_option linter.unusedSimpArgs false
section
namespace Go.Eng
noncomputable section

def H4 (tab:List jx):aU→FuncId→List AV→aa→Option (AV×aa):=fun call f args H =>
 cond (Nat.beq f 1000000) (match H with
  | []=>some (.undef,[])
  | _=>none) (Ba tab call f args H)
theorem H5 {P:Program} (tab:List jx) (hT:∀ e ∈ tab,cj P e):vt P (H4 tab):=by
 intro call hC f args H v H' h hne
 unfold H4 at h
 cases hb:Nat.beq f 1000000 with
 | true =>
   rw[hb,cond_true] at h
   cases H with
   | nil=>exact absurd rfl hne
   | cons l r=>simp at h
 | false =>
   rw[hb,cond_false] at h
   exact xH tab hT call hC f args H v H' h hne
abbrev l9:=FuncId→Option (List HV→aa→Tr (HV×aa))
def l9.Ok (tab:l9) (call:aU):Prop:=∀ f g,tab f=some g→∀ args H x,(g args H).run=some x→call (.fn f) (r8 args) H=some (x.1.1,x.2)
variable (P:Program) (ora:aU→FuncId→List AV→aa→Option (AV×aa)) (KT:FuncId→Nat→Nat) (fu:Nat) (no:FuncId→Bool) (tab:l9) (n:Nat)
def DI   : Nat→bJ
 | 0 => fun tgt args H=>match tgt with
   | .fn g=>match tab g with
     | some c=>c args H
     | none=>.bad
   | _=>.bad
 | k + 1 => fun tgt args H=>match tgt with
   | .fn g=>match tab g with
     | some c=>c args H
     | none=>cond (no g) .bad (match P.funcs[g]? with
       | some fn=>match fn.body with
         | some _=>cond (Nat.ble (iG args) fn.ntmps) (bt P (cS P ora KT fu (n+k)) fu g fn (KT g) (DI k) aP aQ args H) .bad
         | none=>.bad
       | none=>.bad)
   | _=>.bad
theorem Cf (hno:∀ g,no g=false→∀ c args H,ora c g args H=none) (hm:∀ k,∃ x,cS P ora KT fu k .mode [] []=some x) (ht:∀ k,tab.Ok (cS P ora KT fu (n+k))):∀ k,(DI P ora KT fu no tab n k).Ok (cS P ora KT fu (n+k))
 | 0 => ⟨hm _,fun tgt args H x h=>by
   unfold DI at h
   split at h
   · split at h
     · rename_i c hc
       exact ht 0 _ _ hc _ _ _ h
     · exact (Tr.ae h).elim
   · exact (Tr.ae h).elim⟩
 | k + 1 => ⟨hm _,fun tgt args H x h=>by
   unfold DI at h
   split at h
   · rename_i g
     split at h
     · rename_i c hc
       exact ht (k+1) _ _ hc _ _ _ h
     · obtain ⟨hn,h⟩:=Tr.kr h
       split at h
       · rename_i fn hf
         split at h
         · rename_i c hb
           obtain ⟨hl,h⟩:=Tr.aW h
           rw[dx] at hl
           exact yp hf (by rw[hb];rfl) (hno g hn _ _ _) hl (Cf hno hm ht k) (af _ _) (ag _ _) h
         · exact (Tr.ae h).elim
       · exact (Tr.ae h).elim
   · exact (Tr.ae h).elim⟩
def aI:l9:=fun _=>none
theorem aO (call:aU):aI.Ok call:=fun _ _ h=>by cases h
def dI (t:l9) (f:FuncId) (g:List AV→aa→Tr (AV×aa)):l9:=fun x=>cond (Nat.beq x f) (some fun args H=>(g (r8 args) H).bind fun y=>.ok ((y.1,none),y.2)) (t x)
theorem gh {t:l9} {f:FuncId} {g:List AV→aa→Tr (AV×aa)} {call:aU} (h:t.Ok call) (k:∀ args H x,(g args H).run=some x→call (.fn f) args H=some x):(dI t f g).Ok call:=by
 intro f' g' hg args H x hx
 unfold dI at hg
 cases hb:Nat.beq f' f with
 | true =>
   rw[hb,cond_true,Option.some.injEq] at hg
   have:=Nat.eq_of_beq_eq_true hb
   subst this;subst hg
   obtain ⟨y,h1,h2⟩:=Tr.bind_some hx
   have:=k _ _ _ h1
   rw[← Tr.ab h2];exact this
 | false =>
   rw[hb,cond_false] at hg
   exact h _ _ hg _ _ _ hx

def iS (t:l9) (f:FuncId) (g:List AV→Option (Prop×AV)):l9:=fun x=>cond (Nat.beq x f) (some fun args H=>match g (r8 args) with
 | some (p,v)=>.reqP p (.ok ((v,none),H))
 | none=>.bad) (t x)
theorem dY {t:l9} {f:FuncId} {g:List AV→Option (Prop×AV)} {call:aU} (h:t.Ok call) (k:∀ args p v,g args=some (p,v)→p→∀ H,call (.fn f) args H=some (v,H)):(iS t f g).Ok call:=by
 intro f' g' hg args H x hx
 unfold iS at hg
 cases hb:Nat.beq f' f with
 | true =>
   rw[hb,cond_true,Option.some.injEq] at hg
   have:=Nat.eq_of_beq_eq_true hb
   subst this;subst hg
   dsimp only at hx
   split at hx
   · rename_i p v hp
     obtain ⟨e1,hx⟩:=Tr.cW hx
     rw[k _ p v hp e1 H,← Tr.ab hx]
   · exact (Tr.ae hx).elim
 | false =>
   rw[hb,cond_false] at hg
   exact h _ _ hg _ _ _ hx
theorem ij (z:Nat→Int):nQ z 0=z:=by rw[jq];funext j;simp
end
end Go.Eng
end
section
namespace Go.Eng

theorem b9.name {p:aJ} {M:Mu} {H:aa} {w:World} (h:a8 p M H w) {k:Nat} (hk0:(au H 0 k).2=.dead) (hk:k<ah H 0) (hm0:∀ v,M 0 k v=none) (hl0:az H 0=false) (x:Obj):b9 p M H w p (bh M 0 k 0 (w.heap.size,0,0)) H (w.alloc x):=by
 have hle:Mu.le M (bh M 0 k 0 (w.heap.size,0,0)):=kI fun u hu=>by rw[hm0] at hu;cases hu
 have hs:=fS w x
 have h':=h.stay hs
 have mu:∀ d i v t,bh M 0 k 0 (w.heap.size,0,0) d i v=some t→(d=0∧i=k∧v=0∧t=(w.heap.size,0,0))∨M d i v=some t:=fun d i v t hm=>by
  simp only[bh] at hm
  split at hm
  · rename_i e;exact .inl ⟨e.1,e.2.1,e.2.2,(Option.some.inj hm).symm⟩
  · exact .inr hm
 have dead:∀ {d i v B},au H d i=(v,B)→B≠.dead→¬ (d=0∧i=k):=fun {d i v B} hg hB e=>by
  rw[e.1,e.2] at hg
  rw[hg] at hk0
  exact hB hk0
 refine { b9.refl h with mu:=hle,rel:=⟨h'.pers,?_,?_,?_⟩,stay:=hs.weaken (fun _ _ _=>trivial),bf:=?_,own:=?_,new:=?_ }
 · intro d i v B hg hB
   obtain ⟨b,o,t,k1,k2,k3⟩:=h'.live d i v B hg hB
   exact ⟨b,o,t,hle _ _ _ _ k1,k2.mono (aJ.le.refl _) (hle.up d) rfl,k3⟩
 · intro d i v B d' i' v' B' b o t o' t' hg hB hg' hB' hm hm'
   rcases mu _ _ _ _ hm with ⟨e1,e2,_⟩ | hm
   · exact absurd ⟨e1,e2⟩ (dead hg hB)
   · rcases mu _ _ _ _ hm' with ⟨e1,e2,_⟩ | hm'
     · exact absurd ⟨e1,e2⟩ (dead hg' hB')
     · exact h.apart d i v B d' i' v' B' b o t o' t' hg hB hg' hB' hm hm'
 · intro d i v t hm
   rcases mu _ _ _ _ hm with ⟨e1,e2,e3,_⟩ | hm
   · rw[e1,e2,e3];exact ⟨hk,fun _=>Nat.zero_le _⟩
   · exact h.dom d i v t hm
 · intro b hb hkk d i v B hg hB hl o t hm
   rcases mu _ _ _ _ hm with ⟨e1,e2,_⟩ | hm
   · exact dead hg hB ⟨e1,e2⟩
   · exact hkk d i v B hg hB hl o t hm
 · intro d i v b o t hm
   rcases mu _ _ _ _ hm with ⟨_,_,_,e4⟩ | hm
   · simp only[Prod.mk.injEq] at e4;exact .inl (by omega)
   · exact .inr ⟨_,_,_,_,_,Nat.le_refl _,hm⟩
 · intro d i v t hm
   rcases mu _ _ _ _ hm with ⟨e1,_,_,_⟩ | hm
   · exact .inr (.inr (by rw[e1];exact hl0))
   · exact .inl hm

theorem mG {p:aJ} {M:Mu} {H:aa} {w:World} (h:a8 p M H w) {r:Nat} {m:Option Nat} {s c:Nat} {seen:Array Nat} (hr:w.heap[r]?=some (.mapIter m s seen c)) {d i v:Nat} {B:aj} (hg:au H d i=(v,B)) (hB:B≠.dead) (o t:Nat):M d i v≠some (r,o,t):=by
 intro hm
 obtain ⟨b,o',t',k1,k2,_⟩:=h.live d i v B hg hB
 rw[hm] at k1
 simp only[nP] at k1
 obtain ⟨rfl,_,_⟩:=k1
 cases B with
 | dead=>exact hB rfl
 | row q=>obtain ⟨_,_,e,_⟩:=k2;rw[hr] at e;simp at e
 | map es=>obtain ⟨_,_,e,_⟩:=k2;rw[hr] at e;simp at e
 | fmap kq f g c=>obtain ⟨_,_,_,_,e,_⟩:=k2;rw[hr] at e;simp at e
 | loop l=>obtain ⟨_,e,_⟩:=k2;rw[hr] at e;simp at e

theorem b9.FV {p p':aJ} {M M':Mu} {H H':aa} {w w':World} (h:b9 p M H w p' M' H' w') {r:Nat} {m:Option Nat} {s c:Nat} {seen:Array Nat} (hr:w'.heap[r]?=some (.mapIter m s seen c)) (hn:w.heap.size≤r) (x:Obj) :
 b9 p M H w p' M' H' (Go.ChangeMaps.setBlock w' r x):=by
 have blk:∀ b,b≠r→(Go.ChangeMaps.setBlock w' r x).heap[b]?=w'.heap[b]?:=fun b hb=>by simp[Go.ChangeMaps.setBlock,Array.getElem?_setIfInBounds_ne (Ne.symm hb)]
 refine { h with rel:=⟨?_,?_,h.rel.apart,h.rel.dom⟩,stay:=⟨h.stay.os,h.stay.tape,h.stay.output,by simp[Go.ChangeMaps.setBlock];exact h.stay.size,fun b hb hk=>?_⟩ }
 · intro b o v hp
   have hc:=h.rel.pers b o v hp
   have hbr:b≠r:=by
    rintro rfl
    simp[World.cell?,hr] at hc
   rw[← hc]
   exact World.cell?_of_block (w:=w') (blk b hbr)
 · intro d i v B hg hB
   obtain ⟨b,o,t,k1,k2,k3⟩:=h.rel.live d i v B hg hB
   have hbr:b≠r:=by
    rintro rfl
    exact mG h.rel hr hg hB o t k1
   exact ⟨b,o,t,k1,k2.mono (aJ.le.refl _) (Mu.le.refl _) (blk b hbr),k3⟩
 · rw[blk b (by omega)];exact h.stay.block b hb hk

theorem b9.drew {p p':aJ} {M M':Mu} {H H':aa} {w w':World} (h:b9 p M H w p' M' H' w'):b9 p M H w p' M' H' w'.drew:=by
 have hs:dg (fun _=>True) w' w'.drew:=⟨rfl,rfl,rfl,Nat.le_refl _,fun _ _ _=>rfl⟩
 exact { h with rel:=h.rel.stay hs,stay:=h.stay.trans hs (fun _ _ _=>trivial) }

end Go.Eng
end
section
namespace Go.Eng
open Go.ChangeMaps (setBlock)

theorem j5 {P:Program} {F:Fence} (hFW:cT F) {o:Oper} (hd:∀ c,o.op≠.defer c) {a:Act} {w w':World} {cv:Value} (h:(execOp a.eval o).run P w=.ok (.value cv) w') {n:Nat} {next:Act→World→Prop} {Q:Exit→Act→World→Prop} (hn:next (a.put o.dst cv) w'):o.wpIn F n P a w next Q:=by
 refine ⟨kh hFW P o w a,?_⟩
 rw[Oper.semAt_eq _ _ _ hd,h]
 exact hn

theorem Marks.FV {n0:Nat} {M:Mu} {H:aa} {w:World} {ds:List Deferred} (h:Marks n0 M H w ds) {r:Nat} {m:Option Nat} {s c:Nat} {seen:Array Nat} (hr:w.heap[r]?=some (.mapIter m s seen c)) (x:Obj):Marks n0 M H (setBlock w r x) ds:=by
 obtain ⟨rs,h1,h2,h0,h3⟩:=h
 refine ⟨rs,h1,h2,by simpa[setBlock] using h0,fun q hq=>?_⟩
 obtain ⟨k1,k2,k3⟩:=h3 q hq
 have hne:q≠r:=by rintro rfl;rw[hr] at k1;simp at k1
 exact ⟨by simp[setBlock,Array.getElem?_setIfInBounds_ne (Ne.symm hne)];exact k1,k2,k3⟩
theorem Marks.drew {n0:Nat} {M:Mu} {H:aa} {w:World} {ds:List Deferred} (h:Marks n0 M H w ds):Marks n0 M H w.drew ds:=h

structure bm where
 out:Nat
 DG:Nat
 id2:Nat
 nxt:Nat
 ops1:Array Oper
 ops2:Array Oper
 no:Oper
 eo:Oper
 t1:List Oper
 t2:List Oper
 it:Tmp
 nx:Tmp
 mo:Tmp
 en:Tmp
 rest:Code
 km:Nat
def bm.code (L:bm):Code:=.block L.out (.loop (.seq (.region L.DG L.ops1 false) (.seq (.cond (.tmp L.mo) .skip (.exit L.out)) (.block L.nxt (.seq (.region L.id2 L.ops2 false) L.rest)))))
structure bm.Ok (L:bm):Prop where
 l1:L.ops1.toList=L.no::L.t1
 o1:L.no.op=.next (.tmp L.it) false
 d1:L.no.dst=some L.nx
 g1:L.no.guard=none
 l2:L.ops2.toList=L.eo::L.t2
 o2:L.eo.op=.entry (.tmp L.it)
 d2:L.eo.dst=some L.en
 g2:L.eo.guard=none

def lr (k:Nat) (v:AV):Bool :=
 match v with
 | .ptr 0 i 0 0=>Nat.beq i k
 | _=>false
theorem fk {k:Nat} {v:AV} (h:lr k v=true):v=.ptr 0 k 0 0:=by
 unfold lr at h
 split at h
 · rw[Nat.eq_of_beq_eq_true h]
 · cases h
def LO (b:Bool) (v:AV):Bool :=
 match v with
 | .bool c=>c == b
 | _=>false
theorem xz {b:Bool} {v:AV} (h:LO b v=true):v=.bool b:=by
 unfold LO at h
 split at h
 · rw[beq_iff_eq] at h;rw[h]
 · cases h

noncomputable def bm.round (L:bm) (cx:Cx) (k n:Nat) (kv:AV×AV) (fr:av) (H:aa):Option (av×aa) :=
 match cR cx.P cx.nt cx.call L.ops1 L.t1 (dz cx.nt fr (some L.nx) (.tup [.bool true,kv.1,kv.2])) H with
 | some (frA,HA)=>if LO true (bw frA L.mo) && lr k (bw frA L.it) then
    match cR cx.P cx.nt cx.call L.ops2 L.t2 (dz cx.nt frA (some L.en) (.tup [kv.1,kv.2])) HA with
    | some (frB,HB)=>match dh cx L.rest frB HB with
      | some (.normal,frC,HC)=>if lr k (bw (bV frC L.km) L.it) then some (bV frC L.km,lP n (bV frC L.km) HC) else none
      | _=>none
    | none=>none
   else none
 | none=>none
noncomputable def bm.last (L:bm) (cx:Cx) (fr:av) (H:aa):Option (av×aa) :=
 match cR cx.P cx.nt cx.call L.ops1 L.t1 (dz cx.nt fr (some L.nx) (.tup [.bool false])) H with
 | some (si,HE)=>if LO false (bw si L.mo) then some (si,HE) else none
 | none=>none

def j8 (r:Nat) (w:World):Array Nat :=
 match w.heap[r]? with
 | some (.mapIter _ _ s _)=>s
 | _=>#[]

theorem vZ {ces:Array MapEntry} {seen:Array Nat} {e:MapEntry} (he:e ∈ (leftOf ces seen).toList):(leftOf ces (seen.push e.born)).size<(leftOf ces seen).size:=by
 unfold leftOf at he ⊢
 rw[Array.toList_filter] at he
 have sz:∀ f:MapEntry→Bool,(ces.filter f).size=(ces.toList.filter f).length:=fun f=>by rw[← Array.toList_filter,Array.length_toList]
 rw[sz,sz]
 have mono:∀ x:MapEntry,seen.contains x.born=true→(seen.push e.born).contains x.born=true:=fun x h=>by
  rw[Array.contains_push,h];simp
 have self:(seen.push e.born).contains e.born=true:=by rw[Array.contains_push];simp
 have hle:∀ (l:List MapEntry),(l.filter fun x=>!(seen.push e.born).contains x.born).length≤(l.filter fun x=>!seen.contains x.born).length:=by
  intro l
  induction l with
  | nil=>exact Nat.le_refl _
  | cons x l ih =>
    rw[List.filter_cons,List.filter_cons]
    cases h1:seen.contains x.born with
    | true =>
      rw[mono x h1]
      simp only[Bool.not_true,Bool.false_eq_true,if_false]
      exact ih
    | false =>
      cases h2:(seen.push e.born).contains x.born with
      | true=>simp only[Bool.not_true,Bool.false_eq_true,if_false,Bool.not_false,if_true,List.length_cons];exact Nat.le_succ_of_le ih
      | false=>simp only[Bool.not_false,if_true,List.length_cons];exact Nat.succ_le_succ ih
 have hlt:∀ (l:List MapEntry),e ∈ (l.filter fun x=>!seen.contains x.born)→(l.filter fun x=>!(seen.push e.born).contains x.born).length<(l.filter fun x=>!seen.contains x.born).length:=by
  intro l
  induction l with
  | nil=>intro h;cases h
  | cons x l ih =>
    intro h
    rw[List.filter_cons] at h
    rw[List.filter_cons,List.filter_cons]
    cases h1:seen.contains x.born with
    | true =>
      rw[h1] at h
      simp only[Bool.not_true,Bool.false_eq_true,if_false] at h
      rw[mono x h1]
      simp only[Bool.not_true,Bool.false_eq_true,if_false]
      exact ih h
    | false =>
      rw[h1] at h
      simp only[Bool.not_false,if_true] at h
      cases h2:(seen.push e.born).contains x.born with
      | true =>
        simp only[Bool.not_true,Bool.false_eq_true,if_false,Bool.not_false,if_true,List.length_cons]
        exact Nat.lt_succ_of_le (hle l)
      | false =>
        simp only[Bool.not_false,if_true,List.length_cons]
        rcases List.mem_cons.1 h with h | h
        · rw[← h,self] at h2;cases h2
        · exact Nat.succ_lt_succ (ih h)
 exact hlt _ he

theorem zp       {cx:Cx} {F:Fence} (hFW:cT F) (hN:cH cx.P) (hC:bR cx.P cx.call) (hX:c7 cx F) {L:bm} (hL:L.Ok) (hit:L.it<cx.nt)
 {k n j0:Nat} {es:List (AV×AV)} {X S:av→bx→Prop} {R:aa} {fr':av} {H':aa} (hlk:∀ d,az R d=true)
 (hXk:∀ fr l,X fr l→bw fr L.it=.ptr 0 k 0 0) (hXr:∀ fr l,X fr l→∀ j,j<es.length→∃ fr1 l1 R1,L.round cx k n (es.getD j (.undef,.undef)) fr (l::R)=some (fr1,l1::R1)∧X fr1 l1∧(j=j0→S fr1 l1))
 (hSr:∀ fr l,S fr l→∀ j,j<es.length→∀ fr1 l1 R1,L.round cx k n (es.getD j (.undef,.undef)) fr (l::R)=some (fr1,l1::R1)→S fr1 l1)
 (hend:∀ fr l,X fr l→(0<es.length→S fr l)→L.last cx fr (l::R)=some (fr',H')) (hj0:0<es.length→j0<es.length)
 -- the base
 {p0:aJ} {M0:Mu} {lb:bx} {Hb:aa} {w0:World} (hHb:Hb=lb::R) (hH0:a8 p0 M0 Hb w0) (hn:ar Hb=n) (hne:Hb≠[]) (hRo:nT F cx.ro M0) {n0 b clock:Nat} {ces:Array MapEntry} (hkb:Go.Eng.bf M0 Hb b) (hb0:w0.heap[b]?=some (.map ces clock)) (hborn:jv ces clock) (hsz:ces.size=es.length)
 (hrel:∀ j,(h:j<ces.size)→ai p0 M0 (es.getD j (.undef,.undef)).1 ces[j].key∧ai p0 M0 (es.getD j (.undef,.undef)).2 ces[j].val)
 -- where it begins
 {r:Nat} (hr0:w0.heap.size≤r) {p:aJ} {M:Mu} {fr:av} {l0:bx} {a:Act} {w:World} (hE:b9 p0 M0 Hb w0 p M (l0::R) w) (hF:bU p M cx.nt fr a) (hM:Marks n0 M (l0::R) w a.defers) (hx:X fr l0) (hr:w.heap[r]?=some (.mapIter (some b) clock #[] clock))
 (ha:a.tmps.getD L.it Go.undef=.pointer (some ⟨r,0,none⟩)) {Q:Exit→Act→World→Prop} (hQ:∀ a' w',Eg n0 p0 M0 Hb w0 cx.nt fr' H' a' w'→Q .normal a' w'):L.code.wpIn F 0 cx.P Q a w:=by
 have hbl:b<w0.heap.size:=(Array.getElem?_eq_some_iff.1 hb0).1
 have hnod:(ces.toList.map (·.born)).Nodup:=by
  refine List.pairwise_iff_getElem.2 fun i i' hi hi' hlt e=>?_
  simp only[List.length_map,Array.length_toList] at hi hi'
  have:=hborn.2 i i' hi hi' (by simpa using e)
  omega
 -- of the iterator's slot
 have slot:∀ {p:aJ} {M:Mu} {fr:av} {a:Act},bU p M cx.nt fr a→bw fr L.it=.ptr 0 k 0 0→a.tmps.getD L.it Go.undef=.pointer (some ⟨r,0,none⟩)→∃ t,M 0 k 0=some (r,0,t):=by
  intro p M fr a hF hk he
  have:=hF.at_ L.it
  rw[hk,he] at this
  generalize hz:(Value.pointer (some ⟨r,0,none⟩))=z at this
  cases this
  rename_i b' o' t' hm
  simp only[Value.pointer.injEq,Option.some.injEq,Addr.mk.injEq] at hz
  obtain ⟨rfl,hz,_⟩:=hz
  obtain rfl:o'=0:=by omega
  exact ⟨t',hm⟩
 have slot':∀ {p:aJ} {M:Mu} {fr:av} {a:Act} {t:Nat},bU p M cx.nt fr a→bw fr L.it=.ptr 0 k 0 0→M 0 k 0=some (r,0,t)→a.tmps.getD L.it Go.undef=.pointer (some ⟨r,0,none⟩):=by
  intro p M fr a t hF hk hm
  have:=hF.at_ L.it
  rw[hk] at this
  generalize a.tmps.getD L.it Go.undef=z at this
  cases this
  rename_i b' o' t' hm'
  rw[hm] at hm'
  simp only[nP] at hm'
  obtain ⟨rfl,rfl,_⟩:=hm'
  rfl
 refine wpIn_block (wpIn_loop (fun a w=>∃ p M fr l seen,b9 p0 M0 Hb w0 p M (l::R) w∧bU p M cx.nt fr a∧Marks n0 M (l::R) w a.defers∧X fr l∧w.heap[r]?=some (.mapIter (some b) clock seen clock) ∧
  a.tmps.getD L.it Go.undef=.pointer (some ⟨r,0,none⟩)∧(∀ h:j0<ces.size,seen.contains (ces[j0]).born=true→S fr l)) (fun _ w=>(leftOf ces (j8 r w)).size) ⟨p,M,fr,l0,#[],hE,hF,hM,hx,hr,ha,fun h hc=>by simp at hc⟩ ?_)
 rintro a w ⟨p,M,fr,l,seen,hE,hF,hM,hx,hr,ha,hs⟩
 obtain ⟨H,hHl⟩:∃ H,H=l::R:=⟨_,rfl⟩
 rw[← hHl] at hE hM
 have hseen:j8 r w=seen:=by unfold j8;rw[hr]
 have hbw:w.heap[b]?=some (.map ces clock):=by rw[hE.stay.block b hbl hkb];exact hb0
 have hwant:∀ (o:Oper),o.guard=none→∀ y,Region.wanted o y=true:=fun o hg y=>by unfold Region.wanted;rw[hg]
 have hev:a.eval (.tmp L.it)=.pointer (some ⟨r,0,none⟩):=ha
 refine wpIn_seq (wpIn_region_list ?_)
 rw[hL.l1]
 unfold wpListIn
 rw[if_pos (hwant _ hL.g1 _)]
 rcases run_next_at (P:=cx.P) w L.no.type r b clock clock seen ces clock hr hbw (fun x hx=>by
  obtain ⟨i,hi,rfl⟩:=List.getElem_of_mem hx
  have:=hborn.1 i (by simpa using hi)
  simpa using this) (Nat.le_refl _) with ⟨hz,hrun⟩ | ⟨e,he,w1,hw1,hrun⟩
 · -- nothing is left
   refine j5 hFW (by rw[hL.o1];intro c h;cases h) (cv:=.tuple #[.bool false]) (w':=w) (by simp only[execOp,hL.o1,hev];simp[Sem.run_bind,hrun,Result.andThen]) ?_
   have hS:0<es.length→S fr l:=fun hpos=>by
    have hj:=hj0 hpos
    rw[← hsz] at hj
    refine hs hj (Classical.byContradiction fun hc=>?_)
    have hc':seen.contains (ces[j0]).born=false:=by simpa using hc
    have:ces[j0] ∈ leftOf ces seen:=by
     unfold leftOf
     rw[Array.mem_filter]
     exact ⟨Array.getElem_mem hj,by rw[hc'];rfl⟩
    have:=Array.size_pos_of_mem this
    omega
   have hl:=hend fr l hx hS
   rw[← hHl] at hl
   unfold bm.last at hl
   rw[cA] at hl
   cases hro:dQ cx.P cx.nt cx.call L.ops1 L.t1 (dz cx.nt fr (some L.nx) (.tup [.bool false])) H with
   | none=>rw[hro] at hl;simp at hl
   | some q =>
     obtain ⟨si,HE⟩:=q
     rw[hro] at hl
     dsimp only at hl
     split at hl
     · rename_i hb
       simp only[nP] at hl
       obtain ⟨rfl,rfl⟩:=hl
       have hput:=hF.put (some L.nx) (v:=.tup [.bool false]) (c:=.tuple #[.bool false]) (.tup rfl (fun j hj=>by
        obtain rfl:j=0:=by simpa using hj
        exact .bool _))
       rw[hL.d1]
       refine eu hFW hN hC _ _ _ _ _ hro p M _ w hput hE.rel (hE.ne hne) (fun a2 w2 ⟨p2,M2,hE2,hF2,hd2⟩=>?_)
       refine wpIn_seq ?_
       have hmo:=hF2.at_ L.mo
       rw[xz hb] at hmo
       have hc:a2.eval (.tmp L.mo)=.bool false:=by
        show a2.tmps.getD L.mo Go.undef=_
        generalize a2.tmps.getD L.mo Go.undef=z at hmo
        cases hmo;rfl
       refine wpIn_cond_false hc (wpIn_exit ?_)
       show Exit.inBlock L.out Q (.exit L.out) a2 w2
       simp only[Exit.inBlock,if_true]
       refine hQ a2 w2 ⟨p2,M2,hE.trans hE2,hF2,?_⟩
       rw[hd2,put_defers]
       exact hM.po hE2
     · simp at hl
 · -- an entry comes
   have hemem:e ∈ ces.toList:=by
    unfold leftOf at he
    simp at he
    simpa using he.1
   obtain ⟨j,hj,hje⟩:=List.getElem_of_mem hemem
   have hj':j<ces.size:=by simpa using hj
   have hje':ces[j]=e:=by simpa using hje
   have hjl:j<es.length:=by rw[← hsz];exact hj'
   obtain ⟨frN,lN,RN,hround,hxN,hjS⟩:=hXr fr l hx j hjl
   have hround':=hround
   rw[← hHl] at hround'
   unfold bm.round at hround'
   simp only[cA,dK] at hround'
   obtain ⟨hkey,hval⟩:=hrel j hj'
   rw[hje'] at hkey hval
   have hE1:b9 p0 M0 Hb w0 p M H w1∧Marks n0 M H w1 a.defers∧w1.heap[r]?=some (.mapIter (some b) clock seen clock):=by
    rcases hw1 with rfl | rfl
    · exact ⟨hE,hM,hr⟩
    · exact ⟨hE.drew,hM.drew,hr⟩
   obtain ⟨hE1,hM1,hr1⟩:=hE1
   have hE2:=hE1.FV hr1 hr0 (.mapIter (some b) clock (seen.push e.born) clock)
   have hM2:=hM1.FV hr1 (.mapIter (some b) clock (seen.push e.born) clock)
   have hr2:(setBlock w1 r (.mapIter (some b) clock (seen.push e.born) clock)).heap[r]?=some (.mapIter (some b) clock (seen.push e.born) clock):=by
    have hlt:r<w1.heap.size:=(Array.getElem?_eq_some_iff.1 hr1).1
    simp[setBlock,hlt]
   generalize setBlock w1 r (.mapIter (some b) clock (seen.push e.born) clock)=w2 at hrun hE2 hM2 hr2
   refine j5 hFW (by rw[hL.o1];intro c h;cases h) (cv:=.tuple #[.bool true,e.key,e.val]) (w':=w2) (by simp only[execOp,hL.o1,hev];simp[Sem.run_bind,hrun,Result.andThen]) ?_
   rw[hL.d1]
   have hput:=hF.put (some L.nx) (v:=.tup [.bool true,(es.getD j (.undef,.undef)).1,(es.getD j (.undef,.undef)).2]) (c:=.tuple #[.bool true,e.key,e.val]) (.tup rfl (fun i hi=>by
    match i,hi with
    | 0,_=>exact .bool _
    | 1,_=>exact hkey.mono hE2.pst hE2.mu
    | 2,_=>exact hval.mono hE2.pst hE2.mu))
   cases hro:dQ cx.P cx.nt cx.call L.ops1 L.t1 (dz cx.nt fr (some L.nx) (.tup [.bool true,(es.getD j (.undef,.undef)).1,(es.getD j (.undef,.undef)).2])) H with
   | none=>rw[hro] at hround';simp at hround'
   | some q =>
     obtain ⟨frA,HA⟩:=q
     rw[hro] at hround'
     dsimp only at hround'
     split at hround'
     · rename_i hcA
       simp only[Bool.and_eq_true] at hcA
       obtain ⟨hcA1,hcA2⟩:=hcA
       obtain ⟨t,hmk⟩:=slot hF (hXk fr l hx) ha
       refine eu hFW hN hC _ _ _ _ _ hro p M _ w2 hput hE2.rel (hE2.ne hne) (fun a3 w3 ⟨p3,M3,hE3,hF3,hd3⟩=>?_)
       refine wpIn_seq ?_
       have hmo:=hF3.at_ L.mo
       rw[xz hcA1] at hmo
       have hc:a3.eval (.tmp L.mo)=.bool true:=by
        show a3.tmps.getD L.mo Go.undef=_
        generalize a3.tmps.getD L.mo Go.undef=z at hmo
        cases hmo;rfl
       refine wpIn_cond_true hc (wpIn_skip ?_)
       show Code.wpIn F 0 cx.P _ _ a3 w3
       have hmk3:=hE3.mu _ _ _ _ hmk
       have ha3:=slot' hF3 (fk hcA2) hmk3
       have hr3:w3.heap[r]?=some (.mapIter (some b) clock (seen.push e.born) clock):=by
        rw[hE3.stay.block r (Array.getElem?_eq_some_iff.1 hr2).1 (fun d i v B hg hB _ o t=>mG hE2.rel hr2 hg hB o t)];exact hr2
       have hE03:=hE2.trans hE3
       have hbw3:w3.heap[b]?=some (.map ces clock):=by rw[hE03.stay.block b hbl hkb];exact hb0
       have hM3:Marks n0 M3 HA w3 a3.defers:=by rw[hd3,put_defers];exact hM2.po hE3
       refine wpIn_block (wpIn_seq (wpIn_region_list ?_))
       rw[hL.l2]
       unfold wpListIn
       rw[if_pos (hwant _ hL.g2 _)]
       have hrunE:=run_entry_at (P:=cx.P) w3 r b clock seen ces clock e hr3 hbw3 hemem hnod
       have hev3:a3.eval (.tmp L.it)=.pointer (some ⟨r,0,none⟩):=ha3
       refine j5 hFW (by rw[hL.o2];intro c h;cases h) (cv:=.tuple #[e.key,e.val]) (w':=w3) (by simp only[execOp,hL.o2,hev3];simp[Sem.run_bind,hrunE,Result.andThen]) ?_
       rw[hL.d2]
       have hput3:=hF3.put (some L.en) (v:=.tup [(es.getD j (.undef,.undef)).1,(es.getD j (.undef,.undef)).2]) (c:=.tuple #[e.key,e.val]) (.tup rfl (fun i hi=>by
        match i,hi with
        | 0,_=>exact hkey.mono hE03.pst hE03.mu
        | 1,_=>exact hval.mono hE03.pst hE03.mu))
       cases hro2:dQ cx.P cx.nt cx.call L.ops2 L.t2 (dz cx.nt frA (some L.en) (.tup [(es.getD j (.undef,.undef)).1,(es.getD j (.undef,.undef)).2])) HA with
       | none=>rw[hro2] at hround';simp at hround'
       | some q2 =>
         obtain ⟨frB,HB⟩:=q2
         rw[hro2] at hround'
         dsimp only at hround'
         refine eu hFW hN hC _ _ _ _ _ hro2 p3 M3 _ w3 hput3 hE3.rel (hE03.ne hne) (fun a4 w4 ⟨p4,M4,hE4,hF4,hd4⟩=>?_)
         show Code.wpIn F 0 cx.P _ _ a4 w4
         have hE04:=hE03.trans hE4
         have hM4:Marks n0 M4 HB w4 a4.defers:=by rw[hd4,put_defers];exact hM3.po hE4
         split at hround'
         · rename_i frC HC hex
           split at hround'
           · rename_i hptC
             simp only[nP] at hround'
             obtain ⟨rfl,hcut⟩:=hround'
             refine cB hFW hN hC hX _ _ _ _ _ _ hex n0 p4 M4 a4 w4 _ hF4 hE4.rel (hE04.ne hne) (hRo.mono hE04.mu) hM4 (fun a5 w5 ⟨p5,M5,hE5,hF5,hM5⟩=>?_)
             show Exit.inBlock L.nxt _ .normal a5 w5
             simp only[Exit.inBlock,Exit.then]
             have hE05:=hE04.trans hE5
             have hE35:=hE4.trans hE5
             have hF5':=hF5.kill L.km
             have hmk5:=hE35.mu _ _ _ _ hmk3
             have ha5:=slot' hF5' (fk hptC) hmk5
             have hr5:w5.heap[r]?=some (.mapIter (some b) clock (seen.push e.born) clock):=by
              rw[hE35.stay.block r (Array.getElem?_eq_some_iff.1 hr3).1 (fun d i v B hg hB _ o t=>mG hE3.rel hr3 hg hB o t)];exact hr3
             obtain ⟨M6,hE6,hF6,hM6⟩:=r9 hE05 hF5' hM5 (fun d i v t hm=>(hH0.dom d i v t hm).1)
             rw[hn,hcut] at hE6 hM6
             have hRN:RN=R:=by
              have hdR:∀ d,az Hb (d+1)=true:=fun d=>by rw[hHb];exact hlk d
              refine kF _ _ (by have:=hE6.len;rw[hHb] at this;simpa using this) (fun d i=>?_) (fun d=>?_) (fun d=>?_)
              · have:=hE6.same (d+1) i (by omega) (hdR d);rw[hHb] at this;exact this
              · have:=hE6.next (d+1) (by omega) (hdR d);rw[hHb] at this;exact this
              · have:=hE6.lock (d+1);rw[hHb] at this;exact this
             rw[hRN] at hE6 hM6
             refine ⟨⟨p5,M6,_,_,seen.push e.born,hE6,hF6,hM6,hxN,hr5,ha5,fun h hc=>?_⟩,?_⟩
             · rw [Array.contains_push] at hc
               by_cases hold:seen.contains (ces[j0]).born=true
               · exact hSr fr l (hs h hold) j hjl _ _ _ hround
               · have hnew:(ces[j0]).born=e.born:=by
                  simp only[Bool.or_eq_true,beq_iff_eq] at hc
                  rcases hc with hc | hc
                  · exact absurd hc hold
                  · first | exact hc | exact hc.symm
                 have:=hborn.2 j0 j h hj' (by rw[hje'];exact hnew)
                 exact hjS this.symm
             · have hs5:j8 r w5=seen.push e.born:=by unfold j8;rw[hr5]
               rw[hs5,hseen]
               exact vZ he
           · simp at hround'
         · simp at hround'
     · simp at hround'

end Go.Eng
end
section
namespace Go.Eng

theorem cr:∀ (H:aa),(aA H).length=H.length
 | []=>rfl
 | l::r=>by simp[aA,cr r]

def bP:aa→aa
 | []=>[]
 | l::r=>l::aA r
theorem ct (H:aa) (d i:Nat):au (bP H) d i=au H d i:=by
 cases H with
 | nil=>rfl
 | cons l r=>cases d with
   | zero=>rfl
   | succ d=>exact iE r d i
theorem b7 (H:aa) (d:Nat):ah (bP H) d=ah H d:=by
 cases H with
 | nil=>rfl
 | cons l r=>cases d with
   | zero=>rfl
   | succ d=>exact fJ r d
theorem a8.same {p:aJ} {M:Mu} {H K:aa} {w:World} (h:a8 p M H w) (hg:∀ d i,au K d i=au H d i) (hn:∀ d,ah K d=ah H d):a8 p M K w :=
 h.under ⟨fun d i=>.inl (hg d i),hn⟩

theorem b9.unlock {p p':aJ} {M M':Mu} {l l':bx} {r:aa} {w w':World} (h:a8 p M (l::r) w) (h0:l.lock=false) (hE:b9 p M (bP (l::r)) w p' M' (l'::aA r) w'):b9 p M (l::r) w p' M' (l'::r) w':=by
 have get:∀ d i,au (l'::r) d i=au (l'::aA r) d i:=fun d i=>by
  cases d with
  | zero=>rfl
  | succ d=>exact (iE r d i).symm
 have next:∀ d,ah (l'::r) d=ah (l'::aA r) d:=fun d=>by
  cases d with
  | zero=>rfl
  | succ d=>exact (fJ r d).symm
 have hl':l'.lock=false:=by have:=hE.lock 0;exact this.trans h0
 refine ⟨hE.pst,hE.mu,hE.rel.same get next,hE.stay.weaken (fun b hb hk d i v B hg hB hl o t=>?_),fun b hb hk d i v B hg hB hl o t hm=>?_,hE.fresh,hE.own,fun d=>?_,fun d i hd hl=>?_,fun d hd hl=>?_,?_,fun d=>?_,fun d i v t hm=>?_⟩
 · rw[ct] at hg
   cases d with
   | zero=>exact hk 0 i v B hg hB h0 o t
   | succ d =>
     have:az (bP (l::r)) (d+1)=true:=bk r d
     rw[this] at hl;cases hl
 · cases d with
   | zero =>
     have hkb:Go.Eng.bf M (bP (l::r)) b:=fun d i v B hg hB hl o t=>by
      rw[ct] at hg
      cases d with
      | zero=>exact hk 0 i v B hg hB h0 o t
      | succ d =>
        have:az (bP (l::r)) (d+1)=true:=bk r d
        rw[this] at hl;cases hl
     exact hE.bf b hb hkb 0 i v B hg hB hl' o t hm
   | succ d =>
     have hg':au (l::r) (d+1) i=(v,B):=hg
     obtain ⟨b2,o2,t2,k1,_,_⟩:=h.live (d+1) i v B hg' hB
     have k2:=hE.mu _ _ _ _ k1
     rw[hm] at k2
     simp only[nP] at k2
     exact hk (d+1) i v B hg' hB hl o2 t2 (by rw[k1,← k2.1])
 · cases d with
   | zero=>exact hl'.trans h0.symm
   | succ d=>rfl
 · cases d with
   | zero=>exact absurd rfl hd
   | succ d=>rfl
 · cases d with
   | zero=>exact absurd rfl hd
   | succ d=>rfl
 · simp
 · rw[next]
   have:=hE.grow d
   rw[b7] at this
   exact this
 · rcases hE.new d i v t hm with h1 | h1 | h1
   · exact .inl h1
   · rw[b7] at h1;exact .inr (.inl h1)
   · cases d with
     | zero=>exact .inr (.inr h0)
     | succ d =>
       have:az (bP (l::r)) (d+1)=true:=bk r d
       rw[this] at h1;cases h1

theorem ga {P:Program} {F:Fence} (hFW:cT F) (hN:cH P) {call:aU} (hC:bR P call) {nt:Nat} {ops:Array Oper} {n:Nat} {Q:Exit→Act→World→Prop} {l2:List Oper}:∀ (l:List Oper) (fr:av) (H:aa) (fr':av) (H':aa),
 dQ P nt call ops l fr H=some (fr',H')→∀ (p:aJ) (M:Mu) (a:Act) (w:World),bU p M nt fr a→a8 p M H w→H≠[] →
 (∀ a' w',At p M H w nt a.defers fr' H' a' w'→wpListIn F n P ops Q l2 a' w')→wpListIn F n P ops Q (l++l2) a w
 | [],fr,H,fr',H',h,p,M,a,w,hF,hH,hne,hQ=>by
   simp only[dQ,Option.some.injEq,Prod.mk.injEq] at h
   obtain ⟨rfl,rfl⟩:=h
   exact hQ a w ⟨p,M,b9.refl hH,hF,rfl⟩
 | o :: l,fr,H,fr',H',h,p,M,a,w,hF,hH,hne,hQ=>by
   simp only[dQ] at h
   have hw:=uF hF ops o
   rw[List.cons_append]
   unfold wpListIn
   cases hwv:ik ops fr o with
   | lost=>rw[hwv] at h;simp at h
   | skip =>
     rw[hwv] at h
     simp only at h
     rw[if_neg (by rw[hw.2 hwv];simp)]
     exact ⟨kh hFW P o w a,ga hFW hN hC l _ H fr' H' h p M _ w (hF.put o.dst rb) hH hne (fun a' w' ha=>hQ a' w' (by rw[put_defers] at ha;exact ha))⟩
   | run =>
     rw[hwv] at h
     simp only at h
     rw[if_pos (hw.1 hwv)]
     cases he:evalOp P call fr H (ar H) o with
     | none=>rw[he] at h;simp at h
     | some vd =>
       obtain ⟨v,δ⟩:=vd
       rw[he] at h
       simp only at h
       refine Cz hFW hN hC he hF hH hne (fun cv w' ⟨p',M',hE,hv⟩=>?_)
       refine ga hFW hN hC l _ _ fr' H' h p' M' _ w' ((hF.mono hE.pst hE.mu).put o.dst hv) hE.rel (hE.ne hne) (fun a' w'' ⟨p'',M'',hE',hF',hd⟩=>?_)
       exact hQ a' w'' ⟨p'',M'',hE.trans hE',hF',by rw[put_defers] at hd;exact hd⟩

noncomputable def Dt:Nat→AV→AV→Bool
 | 0,_,_=>false
 | n+1,v,u=>match v,u with
   | .undef,.undef=>true
   | .bool a,.bool b=>a == b
   | .int k a,.int k' b=>gE k k' && Gx a b
   | .nilp,.nilp=>true
   | .nils,.nils=>true
   | .nilm,.nilm=>true
   | .ptr d i v o,.ptr d' i' v' o'=>Nat.beq d d' && (Nat.beq i i' && (Nat.beq v v' && Nat.beq o o'))
   | .slc d i v o z l c,.slc d' i' v' o' z' l' c'=>Nat.beq d d' && (Nat.beq i i' && (Nat.beq v v' && (Nat.beq o o' && (Nat.beq z z' && (Nat.beq l l' && AN c c')))))
   | .map d i,.map d' i'=>Nat.beq d d' && Nat.beq i i'
   | .ptrT s r o,.ptrT s' r' o'=>AN s s' && (uV (Dt n) r r' && Nat.beq o o')
   | .slcT s r z l b,.slcT s' r' z' l' b'=>AN s s' && (uV (Dt n) r r' && (Nat.beq z z' && (Nat.beq l l' && b == b')))
   | .fn (.func f) a b,.fn (.func f') a' b'=>Nat.beq f f' && (uV.listEqV (Dt n) a a' && uV.listEqV (Dt n) b b')
   | .agg r,.agg r'=>uV (Dt n) r r'
   | .tup l,.tup l'=>uV.listEqV (Dt n) l l'
   | _,_=>false
theorem nb {a b:Nat} (h:Nat.beq a b=true):a=b:=Nat.eq_of_beq_eq_true h
theorem s9:∀ (n:Nat) (x y:AV),Dt n x y=true→x=y
 | 0,x,y,h=>by simp[Dt] at h
 | n+1,x,y,h=>by
   have ih:=s9 n
   unfold Dt at h
   split at h
   · rfl
   · rw[beq_iff_eq] at h;rw[h]
   · simp only[Bool.and_eq_true,eY,xk,decide_eq_true_eq,beq_iff_eq] at h;rw[h.1,h.2]
   · rfl
   · rfl
   · rfl
   · simp only[Bool.and_eq_true] at h;rw[nb h.1,nb h.2.1,nb h.2.2.1,nb h.2.2.2]
   · simp only[Bool.and_eq_true] at h;rw[nb h.1,nb h.2.1,nb h.2.2.1,nb h.2.2.2.1,nb h.2.2.2.2.1,nb h.2.2.2.2.2.1,ph _ _ h.2.2.2.2.2.2]
   · simp only[Bool.and_eq_true] at h;rw[nb h.1,nb h.2]
   · simp only[Bool.and_eq_true] at h;rw[ph _ _ h.1,oa ih _ _ h.2.1,nb h.2.2]
   · simp only[Bool.and_eq_true,beq_iff_eq] at h;rw[ph _ _ h.1,oa ih _ _ h.2.1,nb h.2.2.1,nb h.2.2.2.1,h.2.2.2.2]
   · simp only[Bool.and_eq_true] at h;rw[nb h.1,gQ ih _ _ h.2.1,gQ ih _ _ h.2.2]
   · rw[oa ih _ _ h]
   · rw[gQ ih _ _ h]
   · cases h
noncomputable def vJ:av→av→Bool
 | [],[]=>true
 | (x,v)::r,(y,u)::s=>Nat.beq x y && (Dt 9 v u && vJ r s)
 | _,_=>false
theorem yx:∀ (f g:av),vJ f g=true→f=g
 | [],[],_=>rfl
 | [],_::_,h=>by simp[vJ] at h
 | _::_,[],h=>by simp[vJ] at h
 | (x,v)::r,(y,u)::s,h=>by
   simp only[vJ,Bool.and_eq_true] at h
   rw[nb h.1,s9 9 _ _ h.2.1,yx r s h.2.2]
noncomputable def Ds:List (AV×AV)→List (AV×AV)→Bool
 | [],[]=>true
 | (a,b)::r,(c,d)::s=>Dt 9 a c && (Dt 9 b d && Ds r s)
 | _,_=>false
theorem BV:∀ (f g:List (AV×AV)),Ds f g=true→f=g
 | [],[],_=>rfl
 | [],_::_,h=>by simp[Ds] at h
 | _::_,[],h=>by simp[Ds] at h
 | (x,v)::r,(y,u)::s,h=>by
   simp only[Ds,Bool.and_eq_true] at h
   rw[s9 9 _ _ h.1,s9 9 _ _ h.2.1,BV r s h.2.2]
noncomputable def mi:List (Nat×aj)→List (Nat×aj)→Bool
 | [],[]=>true
 | (n,.dead)::r,(m,.dead)::s=>Nat.beq n m && mi r s
 | (n,.row q)::r,(m,.row q')::s=>Nat.beq n m && (uV (Dt 9) q q' && mi r s)
 | (n,.map e)::r,(m,.map e')::s=>Nat.beq n m && (Ds e e' && mi r s)
 | _,_=>false
theorem Dr:∀ (f g:List (Nat×aj)),mi f g=true→f=g:=by
 intro f
 induction f with
 | nil=>intro g h;cases g with
   | nil=>rfl
   | cons _ _=>simp[mi] at h
 | cons x r ih =>
   intro g h
   cases g with
   | nil=>obtain ⟨n,B⟩:=x;cases B<;>simp[mi] at h
   | cons y s =>
     obtain ⟨n,B⟩:=x
     obtain ⟨m,C⟩:=y
     cases B<;>cases C<;>simp only[mi,Bool.and_eq_true] at h<;>try (simp at h;done)
     · rw[nb h.1,ih s h.2]
     · rw[nb h.1,oa (s9 9) _ _ h.2.1,ih s h.2.2]
     · rw[nb h.1,BV _ _ h.2.1,ih s h.2.2]
noncomputable def Ly (s t:av×bx):Bool:=vJ s.1 t.1 && (s.2.lock == t.2.lock && mi s.2.bs t.2.bs)
theorem xj (s t:av×bx) (h:Ly s t=true):s=t:=by
 simp only[Ly,Bool.and_eq_true,beq_iff_eq] at h
 obtain ⟨f,l⟩:=s
 obtain ⟨g,m⟩:=t
 cases l;cases m
 simp only at h
 rw[yx _ _ h.1,h.2.1,Dr _ _ h.2.2]

end Go.Eng
end
