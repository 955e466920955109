/- The engine as a tree: calls that are carried out where they stand, and calls that are known. -/
import Derived.Test.YtgphpjdchnfjlaaDoorV6EngTfx2
import Derived.Test.YtgphpjdchnfjlaaDoorV6EngXx4
import Derived.Maps.RangeRun
set_option linter.unusedVariables false
set_option linter.unusedSimpArgs false
section
namespace Go.Eng
noncomputable section

def yT (tab:List cD):aK→FuncId→List AV→ab→Option (AV×ab):=fun call f args H =>
 cond (Nat.beq f 1000000) (match H with
  | []=>some (.undef,[])
  | _=>none) (Bw tab call f args H)
theorem C5 {P:Program} (tab:List cD) (hT:∀ e ∈ tab,aB P e):rP P (yT tab):=by
 intro call hC f args H v H' h hne;unfold yT at h;cases hb:Nat.beq f 1000000 with
 | true =>
   rw[hb,cond_true] at h;cases H with
   | nil=>exact absurd rfl hne
   | cons l r=>simp at h
 | false =>
   rw[hb,cond_false] at h;exact wZ tab hT call hC f args H v H' h hne
abbrev nv:=FuncId→Option (List HV→ab→Tr (HV×ab))
def nv.Ok (tab:nv) (call:aK):Prop:=∀ f g,tab f=some g→∀ args H x,(g args H).run=some x→call (.fn f) (mw args) H=some (x.1.1,x.2)
variable (P:Program) (ora:aK→FuncId→List AV→ab→Option (AV×ab)) (KT:FuncId→Nat→Nat) (fu:Nat) (no:FuncId→Bool) (tab:nv) (n:Nat)
def Bc   : Nat→bt
 | 0 => fun tgt args H=>match tgt with
   | .fn g=>match tab g with
     | some c=>c args H
     | none=>.bad
   | _=>.bad
 | k + 1 => fun tgt args H=>match tgt with
   | .fn g=>match tab g with
     | some c=>c args H
     | none=>cond (no g) .bad (match P.funcs[g]? with
       | some fn=>match fn.body with
         | some _=>cond (Nat.ble (j4 args) fn.ntmps) (bu P (dH P ora KT fu (n+k)) fu g fn (KT g) (Bc k) aS aR args H) .bad
         | none=>.bad
       | none=>.bad)
   | _=>.bad
theorem wD (hno:∀ g,no g=false→∀ c args H,ora c g args H=none) (hm:∀ k,∃ x,dH P ora KT fu k .mode [] []=some x) (ht:∀ k,tab.Ok (dH P ora KT fu (n+k))):∀ k,(Bc P ora KT fu no tab n k).Ok (dH P ora KT fu (n+k))
 | 0 => ⟨hm _,fun tgt args H x h=>by
   unfold Bc at h;split at h
   · split at h
     · rename_i c hc;exact ht 0 _ _ hc _ _ _ h
     · exact (Tr.ah h).elim
   · exact (Tr.ah h).elim⟩
 | k + 1 => ⟨hm _,fun tgt args H x h=>by
   unfold Bc at h;split at h
   · rename_i g;split at h
     · rename_i c hc;exact ht (k+1) _ _ hc _ _ _ h
     · obtain ⟨hn,h⟩:=Tr.jS h;split at h
       · rename_i fn hf;split at h
         · rename_i c hb;obtain ⟨hl,h⟩:=Tr.aW h;rw[ey] at hl;exact rY hf (by rw[hb];rfl) (hno g hn _ _ _) hl (wD hno hm ht k) (aj _ _) (ai _ _) h
         · exact (Tr.ah h).elim
       · exact (Tr.ah h).elim
   · exact (Tr.ah h).elim⟩
def aJ:nv:=fun _=>none
theorem bh (call:aK):aJ.Ok call:=fun _ _ h=>by cases h
def kZ (t:nv) (f:FuncId) (g:List AV→ab→Tr (AV×ab)):nv:=fun x=>cond (Nat.beq x f) (some fun args H=>(g (mw args) H).bind fun y=>.ok ((y.1,none),y.2)) (t x)
theorem xG {t:nv} {f:FuncId} {g:List AV→ab→Tr (AV×ab)} {call:aK} (h:t.Ok call) (k:∀ args H x,(g args H).run=some x→call (.fn f) args H=some x):(kZ t f g).Ok call:=by
 intro f' g' hg args H x hx;unfold kZ at hg;cases hb:Nat.beq f' f with
 | true =>
   rw[hb,cond_true,Option.some.injEq] at hg;have:=Nat.eq_of_beq_eq_true hb;subst this;subst hg;obtain ⟨y,h1,h2⟩:=Tr.bind_some hx;have:=k _ _ _ h1;rw[← Tr.af h2];exact this
 | false =>
   rw[hb,cond_false] at hg;exact h _ _ hg _ _ _ hx

def ng (t:nv) (f:FuncId) (g:List AV→Option (Prop×AV)):nv:=fun x=>cond (Nat.beq x f) (some fun args H=>match g (mw args) with
 | some (p,v)=>.reqP p (.ok ((v,none),H))
 | none=>.bad) (t x)
theorem kr {t:nv} {f:FuncId} {g:List AV→Option (Prop×AV)} {call:aK} (h:t.Ok call) (k:∀ args p v,g args=some (p,v)→p→∀ H,call (.fn f) args H=some (v,H)):(ng t f g).Ok call:=by
 intro f' g' hg args H x hx;unfold ng at hg;cases hb:Nat.beq f' f with
 | true =>
   rw[hb,cond_true,Option.some.injEq] at hg;have:=Nat.eq_of_beq_eq_true hb;subst this;subst hg;dsimp only at hx;split at hx
   · rename_i p v hp;obtain ⟨e1,hx⟩:=Tr.gl hx;rw[k _ p v hp e1 H,← Tr.af hx]
   · exact (Tr.ah hx).elim
 | false =>
   rw[hb,cond_false] at hg;exact h _ _ hg _ _ _ hx
def Lo (t:nv) (f:FuncId) (args0:List AV) (H0:ab) (u:Tr (AV×ab)):nv:=fun x=>cond (Nat.beq x f) (some fun args H=>.reqP (mw args=args0∧H=H0) (u.bind fun y=>.ok ((y.1,none),y.2))) (t x)
theorem sd {t:nv} {f:FuncId} {args0:List AV} {H0:ab} {u:Tr (AV×ab)} {call:aK} (h:t.Ok call) (k:∀ x,u.run=some x→call (.fn f) args0 H0=some x):(Lo t f args0 H0 u).Ok call:=by
 intro f' g' hg args H x hx;unfold Lo at hg;cases hb:Nat.beq f' f with
 | true =>
   rw[hb,cond_true,Option.some.injEq] at hg;have:=Nat.eq_of_beq_eq_true hb;subst this;subst hg;obtain ⟨⟨e1,e2⟩,hx⟩:=Tr.gl hx;obtain ⟨y,h1,h2⟩:=Tr.bind_some hx;rw[e1,e2,k _ h1,← Tr.af h2]
 | false =>
   rw[hb,cond_false] at hg;exact h _ _ hg _ _ _ hx

theorem fc (z:Nat→Int):qj z 0=z:=by rw[mn];funext j;simp
end
end Go.Eng
end
section
namespace Go.Eng

theorem cC.name {p:aF} {M:Mu} {H:ab} {w:World} (h:bj p M H w) {k:Nat} (hk0:(az H 0 k).2=.dead) (hk:k<ao H 0) (hm0:∀ v,M 0 k v=none) (hl0:aL H 0=false) (x:Obj):cC p M H w p (br M 0 k 0 (w.heap.size,0,0)) H (w.alloc x):=by
 have hle:Mu.le M (br M 0 k 0 (w.heap.size,0,0)):=j6 fun u hu=>by rw[hm0] at hu;cases hu
 have hs:=fq w x;have h':=h.stay hs;have mu:∀ d i v t,br M 0 k 0 (w.heap.size,0,0) d i v=some t→(d=0∧i=k∧v=0∧t=(w.heap.size,0,0))∨M d i v=some t:=fun d i v t hm=>by
  simp only[br] at hm;split at hm
  · rename_i e;exact .inl ⟨e.1,e.2.1,e.2.2,(Option.some.inj hm).symm⟩
  · exact .inr hm
 have dead:∀ {d i v B},az H d i=(v,B)→B≠.dead→¬ (d=0∧i=k):=fun {d i v B} hg hB e=>by
  rw[e.1,e.2] at hg;rw[hg] at hk0;exact hB hk0
 refine { cC.refl h with mu:=hle,rel:=⟨h'.pers,?_,?_,?_⟩,stay:=hs.weaken (fun _ _ _=>trivial),bA:=?_,own:=?_,new:=?_ }
 · intro d i v B hg hB;obtain ⟨b,o,t,k1,k2,k3⟩:=h'.live d i v B hg hB;exact ⟨b,o,t,hle _ _ _ _ k1,k2.mono (aF.le.refl _) (hle.up d) rfl,k3⟩
 · intro d i v B d' i' v' B' b o t o' t' hg hB hg' hB' hm hm';rcases mu _ _ _ _ hm with ⟨e1,e2,_⟩ | hm
   · exact absurd ⟨e1,e2⟩ (dead hg hB)
   · rcases mu _ _ _ _ hm' with ⟨e1,e2,_⟩ | hm'
     · exact absurd ⟨e1,e2⟩ (dead hg' hB')
     · exact h.apart d i v B d' i' v' B' b o t o' t' hg hB hg' hB' hm hm'
 · intro d i v t hm;rcases mu _ _ _ _ hm with ⟨e1,e2,e3,_⟩ | hm
   · rw[e1,e2,e3];exact ⟨hk,fun _=>Nat.zero_le _⟩
   · exact h.dom d i v t hm
 · intro b hb hkk d i v B hg hB hl o t hm;rcases mu _ _ _ _ hm with ⟨e1,e2,_⟩ | hm
   · exact dead hg hB ⟨e1,e2⟩
   · exact hkk d i v B hg hB hl o t hm
 · intro d i v b o t hm;rcases mu _ _ _ _ hm with ⟨_,_,_,e4⟩ | hm
   · simp only[Prod.mk.injEq] at e4;exact .inl wO
   · exact .inr ⟨_,_,_,_,_,Nat.le_refl _,hm⟩
 · intro d i v t hm;rcases mu _ _ _ _ hm with ⟨e1,_,_,_⟩ | hm
   · exact .inr (.inr (by rw[e1];exact hl0))
   · exact .inl hm

theorem sL {p:aF} {M:Mu} {H:ab} {w:World} (h:bj p M H w) {r:Nat} {m:Option Nat} {s c:Nat} {seen:Array Nat} (hr:w.heap[r]?=some (.mapIter m s seen c)) {d i v:Nat} {B:an} (hg:az H d i=(v,B)) (hB:B≠.dead) (o t:Nat):M d i v≠some (r,o,t):=by
 intro hm;obtain ⟨b,o',t',k1,k2,_⟩:=h.live d i v B hg hB;rw[hm] at k1;simp only[nP] at k1;obtain ⟨rfl,_,_⟩:=k1;cases B with
 | dead=>exact hB rfl
 | row q=>obtain ⟨_,_,e,_⟩:=k2;rw[hr] at e;simp at e
 | map es=>obtain ⟨_,_,e,_⟩:=k2;rw[hr] at e;simp at e
 | fmap kq f g c=>obtain ⟨_,_,_,_,e,_⟩:=k2;rw[hr] at e;simp at e
 | loop l=>obtain ⟨_,e,_⟩:=k2;rw[hr] at e;simp at e

theorem cC.Ml {p p':aF} {M M':Mu} {H H':ab} {w w':World} (h:cC p M H w p' M' H' w') {r:Nat} {m:Option Nat} {s c:Nat} {seen:Array Nat} (hr:w'.heap[r]?=some (.mapIter m s seen c)) (hn:w.heap.size≤r) (x:Obj) :
 cC p M H w p' M' H' (Go.ChangeMaps.setBlock w' r x):=by
 have blk:∀ b,b≠r→(Go.ChangeMaps.setBlock w' r x).heap[b]?=w'.heap[b]?:=fun b hb=>by simp[Go.ChangeMaps.setBlock,Array.getElem?_setIfInBounds_ne (Ne.symm hb)]
 refine { h with rel:=⟨?_,?_,h.rel.apart,h.rel.dom⟩,stay:=⟨h.stay.os,h.stay.tape,h.stay.output,by simp[Go.ChangeMaps.setBlock];exact h.stay.size,fun b hb hk=>?_⟩ }
 · intro b o v hp
   have hc:=h.rel.pers b o v hp
   have hbr:b≠r:=by
    rintro rfl;simp[World.cell?,hr] at hc
   rw[← hc]
   exact World.cell?_of_block (w:=w') (blk b hbr)
 · intro d i v B hg hB
   obtain ⟨b,o,t,k1,k2,k3⟩:=h.rel.live d i v B hg hB
   have hbr:b≠r:=by
    rintro rfl;exact sL h.rel hr hg hB o t k1
   exact ⟨b,o,t,k1,k2.mono (aF.le.refl _) (Mu.le.refl _) (blk b hbr),k3⟩
 · rw[blk b wO];exact h.stay.block b hb hk

theorem cC.drew {p p':aF} {M M':Mu} {H H':ab} {w w':World} (h:cC p M H w p' M' H' w'):cC p M H w p' M' H' w'.drew:=by
 have hs:dx (fun _=>True) w' w'.drew:=⟨rfl,rfl,rfl,Nat.le_refl _,fun _ _ _=>rfl⟩
 exact { h with rel:=h.rel.stay hs,stay:=h.stay.trans hs (fun _ _ _=>trivial) }

end Go.Eng
end
section
namespace Go.Eng
open Go.ChangeMaps (setBlock)

theorem wW {P:Program} {F:Fence} (hFW:dJ F) {o:Oper} (hd:∀ c,o.op≠.defer c) {a:Act} {w w':World} {cv:Value} (h:(execOp a.eval o).run P w=.ok (.value cv) w') {n:Nat} {next:Act→World→Prop} {Q:Exit→Act→World→Prop} (hn:next (a.put o.dst cv) w'):o.wpIn F n P a w next Q:=by
 refine ⟨jO hFW P o w a,?_⟩;rw[Oper.semAt_eq _ _ _ hd,h];exact hn

theorem Marks.Ml {n0:Nat} {M:Mu} {H:ab} {w:World} {ds:List Deferred} (h:Marks n0 M H w ds) {r:Nat} {m:Option Nat} {s c:Nat} {seen:Array Nat} (hr:w.heap[r]?=some (.mapIter m s seen c)) (x:Obj):Marks n0 M H (setBlock w r x) ds:=by
 obtain ⟨rs,h1,h2,h0,h3⟩:=h;refine ⟨rs,h1,h2,by simpa[setBlock] using h0,fun q hq=>?_⟩;obtain ⟨k1,k2,k3⟩:=h3 q hq;have hne:q≠r:=by rintro rfl;rw[hr] at k1;simp at k1
 exact ⟨by simp[setBlock,Array.getElem?_setIfInBounds_ne (Ne.symm hne)];exact k1,k2,k3⟩
theorem Marks.drew {n0:Nat} {M:Mu} {H:ab} {w:World} {ds:List Deferred} (h:Marks n0 M H w ds):Marks n0 M H w.drew ds:=h

structure bV where
 out:Nat
 vu:Nat
 id2:Nat
 nxt:Nat
 ops1:Array Oper
 ops2:Array Oper
 no:Oper
 eo:Oper
 t1:List Oper
 t2:List Oper
 it:Tmp
 nx:Tmp
 mo:Tmp
 en:Tmp
 rest:Code
 km:Nat
def bV.code (L:bV):Code:=.block L.out (.loop (.seq (.region L.vu L.ops1 false) (.seq (.cond (.tmp L.mo) .skip (.exit L.out)) (.block L.nxt (.seq (.region L.id2 L.ops2 false) L.rest)))))
structure bV.Ok (L:bV):Prop where
 l1:L.ops1.toList=L.no::L.t1
 o1:L.no.op=.next (.tmp L.it) false
 d1:L.no.dst=some L.nx
 g1:L.no.guard=none
 l2:L.ops2.toList=L.eo::L.t2
 o2:L.eo.op=.entry (.tmp L.it)
 d2:L.eo.dst=some L.en
 g2:L.eo.guard=none

def nK (k:Nat) (v:AV):Bool :=
 match v with
 | .ptr 0 i 0 0=>Nat.beq i k
 | _=>false
theorem pX {k:Nat} {v:AV} (h:nK k v=true):v=.ptr 0 k 0 0:=by
 unfold nK at h;split at h
 · rw[Nat.eq_of_beq_eq_true h]
 · cases h
def Od (b:Bool) (v:AV):Bool :=
 match v with
 | .bool c=>c == b
 | _=>false
theorem F3 {b:Bool} {v:AV} (h:Od b v=true):v=.bool b:=by
 unfold Od at h;split at h
 · rw[beq_iff_eq] at h;rw[h]
 · cases h

noncomputable def bV.round (L:bV) (cx:Cx) (k n:Nat) (kv:AV×AV) (fr:aA) (H:ab):Option (aA×ab) :=
 match kT cx.P cx.nt cx.call L.ops1 L.t1 (iu cx.nt fr (some L.nx) (.tup [.bool true,kv.1,kv.2])) H with
 | some (frA,HA)=>if Od true (bM frA L.mo) && nK k (bM frA L.it) then
    match kT cx.P cx.nt cx.call L.ops2 L.t2 (iu cx.nt frA (some L.en) (.tup [kv.1,kv.2])) HA with
    | some (frB,HB)=>match oM cx L.rest frB HB with
      | some (.normal,frC,HC)=>if nK k (bM (bT frC L.km) L.it) then some (bT frC L.km,lJ n (bT frC L.km) HC) else none
      | _=>none
    | none=>none
   else none
 | none=>none
noncomputable def bV.last (L:bV) (cx:Cx) (fr:aA) (H:ab):Option (aA×ab) :=
 match kT cx.P cx.nt cx.call L.ops1 L.t1 (iu cx.nt fr (some L.nx) (.tup [.bool false])) H with
 | some (frE,HE)=>if Od false (bM frE L.mo) then some (frE,HE) else none
 | none=>none

def tG (r:Nat) (w:World):Array Nat :=
 match w.heap[r]? with
 | some (.mapIter _ _ s _)=>s
 | _=>#[]

theorem D9 {ces:Array MapEntry} {seen:Array Nat} {e:MapEntry} (he:e ∈ (leftOf ces seen).toList):(leftOf ces (seen.push e.born)).size<(leftOf ces seen).size:=by
 unfold leftOf at he ⊢;rw[Array.toList_filter] at he;have sz:∀ f:MapEntry→Bool,(ces.filter f).size=(ces.toList.filter f).length:=fun f=>by rw[← Array.toList_filter,Array.length_toList]
 rw[sz,sz];have mono:∀ x:MapEntry,seen.contains x.born=true→(seen.push e.born).contains x.born=true:=fun x h=>by
  rw[Array.contains_push,h];simp
 have self:(seen.push e.born).contains e.born=true:=by rw[Array.contains_push];simp
 have hle:∀ (l:List MapEntry),(l.filter fun x=>!(seen.push e.born).contains x.born).length≤(l.filter fun x=>!seen.contains x.born).length:=by
  intro l;induction l with
  | nil=>exact Nat.le_refl _
  | cons x l ih =>
    rw[List.filter_cons,List.filter_cons];cases h1:seen.contains x.born with
    | true =>
      rw[mono x h1];simp only[Bool.not_true,Bool.false_eq_true,if_false];exact ih
    | false =>
      cases h2:(seen.push e.born).contains x.born with
      | true=>simp only[Bool.not_true,Bool.false_eq_true,if_false,Bool.not_false,if_true,List.length_cons];exact Nat.le_succ_of_le ih
      | false=>simp only[Bool.not_false,if_true,List.length_cons];exact Nat.succ_le_succ ih
 have hlt:∀ (l:List MapEntry),e ∈ (l.filter fun x=>!seen.contains x.born)→(l.filter fun x=>!(seen.push e.born).contains x.born).length<(l.filter fun x=>!seen.contains x.born).length:=by
  intro l;induction l with
  | nil=>intro h;cases h
  | cons x l ih =>
    intro h;rw[List.filter_cons] at h;rw[List.filter_cons,List.filter_cons];cases h1:seen.contains x.born with
    | true =>
      rw[h1] at h;simp only[Bool.not_true,Bool.false_eq_true,if_false] at h;rw[mono x h1];simp only[Bool.not_true,Bool.false_eq_true,if_false];exact ih h
    | false =>
      rw[h1] at h;simp only[Bool.not_false,if_true] at h;cases h2:(seen.push e.born).contains x.born with
      | true =>
        simp only[Bool.not_true,Bool.false_eq_true,if_false,Bool.not_false,if_true,List.length_cons];exact Nat.lt_succ_of_le (hle l)
      | false =>
        simp only[Bool.not_false,if_true,List.length_cons];rcases List.mem_cons.1 h with h | h
        · rw[← h,self] at h2;cases h2
        · exact Nat.succ_lt_succ (ih h)
 exact hlt _ he

end Go.Eng
end
section
namespace Go.Eng

def di:ab→ab
 | []=>[]
 | l::r=>l::bF r
theorem fS (H:ab) (d i:Nat):az (di H) d i=az H d i:=by
 cases H with
 | nil=>rfl
 | cons l r=>cases d with
   | zero=>rfl
   | succ d=>exact ik r d i
theorem fa (H:ab) (d:Nat):ao (di H) d=ao H d:=by
 cases H with
 | nil=>rfl
 | cons l r=>cases d with
   | zero=>rfl
   | succ d=>exact ff r d
theorem bj.same {p:aF} {M:Mu} {H K:ab} {w:World} (h:bj p M H w) (hg:∀ d i,az K d i=az H d i) (hn:∀ d,ao K d=ao H d):bj p M K w :=
 h.under ⟨fun d i=>.inl (hg d i),hn⟩

theorem cC.unlock {p p':aF} {M M':Mu} {l l':bJ} {r:ab} {w w':World} (h:bj p M (l::r) w) (h0:l.lock=false) (hE:cC p M (di (l::r)) w p' M' (l'::bF r) w'):cC p M (l::r) w p' M' (l'::r) w':=by
 have get:∀ d i,az (l'::r) d i=az (l'::bF r) d i:=fun d i=>by
  cases d with
  | zero=>rfl
  | succ d=>exact (ik r d i).symm
 have next:∀ d,ao (l'::r) d=ao (l'::bF r) d:=fun d=>by
  cases d with
  | zero=>rfl
  | succ d=>exact (ff r d).symm
 have hl':l'.lock=false:=by have:=hE.lock 0;exact this.trans h0
 refine ⟨hE.pst,hE.mu,hE.rel.same get next,hE.stay.weaken (fun b hb hk d i v B hg hB hl o t=>?_),fun b hb hk d i v B hg hB hl o t hm=>?_,hE.fresh,hE.own,fun d=>?_,fun d i hd hl=>?_,fun d hd hl=>?_,?_,fun d=>?_,fun d i v t hm=>?_⟩
 · rw[fS] at hg;cases d with
   | zero=>exact hk 0 i v B hg hB h0 o t
   | succ d =>
     have:aL (di (l::r)) (d+1)=true:=cq r d;rw[this] at hl;cases hl
 · cases d with
   | zero =>
     have hkb:Go.Eng.bA M (di (l::r)) b:=fun d i v B hg hB hl o t=>by
      rw[fS] at hg;cases d with
      | zero=>exact hk 0 i v B hg hB h0 o t
      | succ d =>
        have:aL (di (l::r)) (d+1)=true:=cq r d;rw[this] at hl;cases hl
     exact hE.bA b hb hkb 0 i v B hg hB hl' o t hm
   | succ d =>
     have hg':az (l::r) (d+1) i=(v,B):=hg;obtain ⟨b2,o2,t2,k1,_,_⟩:=h.live (d+1) i v B hg' hB;have k2:=hE.mu _ _ _ _ k1;rw[hm] at k2;simp only[nP] at k2;exact hk (d+1) i v B hg' hB hl o2 t2 (by rw[k1,← k2.1])
 · cases d with
   | zero=>exact hl'.trans h0.symm
   | succ d=>rfl
 · cases d with
   | zero=>exact absurd rfl hd
   | succ d=>rfl
 · cases d with
   | zero=>exact absurd rfl hd
   | succ d=>rfl
 · simp
 · rw[next];have:=hE.grow d;rw[fa] at this;exact this
 · rcases hE.new d i v t hm with h1 | h1 | h1
   · exact .inl h1
   · rw[fa] at h1;exact .inr (.inl h1)
   · cases d with
     | zero=>exact .inr (.inr h0)
     | succ d =>
       have:aL (di (l::r)) (d+1)=true:=cq r d;rw[this] at h1;cases h1

theorem mi {P:Program} {F:Fence} (hFW:dJ F) (hN:dG P) {call:aK} (hC:b9 P call) {nt:Nat} {ops:Array Oper} {n:Nat} {Q:Exit→Act→World→Prop} {l2:List Oper}:∀ (l:List Oper) (fr:aA) (H:ab) (fr':aA) (H':ab),
 eV P nt call ops l fr H=some (fr',H')→∀ (p:aF) (M:Mu) (a:Act) (w:World),bX p M nt fr a→bj p M H w→H≠[] →
 (∀ a' w',At p M H w nt a.defers fr' H' a' w'→wpListIn F n P ops Q l2 a' w')→wpListIn F n P ops Q (l++l2) a w
 | [],fr,H,fr',H',h,p,M,a,w,hF,hH,hne,hQ=>by
   simp only[eV,Option.some.injEq,Prod.mk.injEq] at h;obtain ⟨rfl,rfl⟩:=h;exact hQ a w ⟨p,M,cC.refl hH,hF,rfl⟩
 | o :: l,fr,H,fr',H',h,p,M,a,w,hF,hH,hne,hQ=>by
   simp only[eV] at h;have hw:=ua hF ops o;rw[List.cons_append];unfold wpListIn;cases hwv:lk ops fr o with
   | lost=>rw[hwv] at h;simp at h
   | skip =>
     rw[hwv] at h;simp only at h;rw[if_neg (by rw[hw.2 hwv];simp)];exact ⟨jO hFW P o w a,mi hFW hN hC l _ H fr' H' h p M _ w (hF.put o.dst ql) hH hne (fun a' w' ha=>hQ a' w' (by rw[put_defers] at ha;exact ha))⟩
   | run =>
     rw[hwv] at h;simp only at h;rw[if_pos (hw.1 hwv)];cases he:evalOp P call fr H (aZ H) o with
     | none=>rw[he] at h;simp at h
     | some vd =>
       obtain ⟨v,δ⟩:=vd;rw[he] at h;simp only at h;refine CZ hFW hN hC he hF hH hne (fun cv w' ⟨p',M',hE,hv⟩=>?_);refine mi hFW hN hC l _ _ fr' H' h p' M' _ w' ((hF.mono hE.pst hE.mu).put o.dst hv) hE.rel (hE.ne hne) (fun a' w'' ⟨p'',M'',hE',hF',hd⟩=>?_);exact hQ a' w'' ⟨p'',M'',hE.trans hE',hF',by rw[put_defers] at hd;exact hd⟩

end Go.Eng
end
section
namespace Go.Eng

end Go.Eng
end
section
namespace Go.Eng

structure eC where
 id0:Nat
 ops0:Array Oper
 pre:List Oper
 ro:Oper
 m:Tmp
 ty:TypeId
def eC.code (S:eC) (L:bV):Code:=.seq (.region S.id0 S.ops0 false) L.code
structure eC.Ok (P:Program) (S:eC) (L:bV):Prop where
 l0:S.ops0.toList=S.pre++[S.ro]
 o0:S.ro.op=.range S.ty (.tmp S.m)
 d0:S.ro.dst=some L.it
 g0:S.ro.guard=none
 t0:∃ k e,P.underlying S.ty=some (.map k e)

noncomputable def fU (L:bV) (cx:Cx) (k n:Nat) (R:ab) (kv:AV×AV) (s:aA×bJ):Option (aA×bJ) :=
 match L.round cx k n kv s.1 (s.2::R) with
 | some (fr,l::_)=>some (fr,l)
 | _=>none
theorem qM {L:bV} {cx:Cx} {k n:Nat} {R:ab} {kv:AV×AV} {s t:aA×bJ} (h:fU L cx k n R kv s=some t):∃ R1,L.round cx k n kv s.1 (s.2::R)=some (t.1,t.2::R1):=by
 unfold fU at h;split at h
 · rename_i fr l R1 e;simp only[Option.some.injEq] at h;subst h;exact ⟨R1,e⟩
 · cases h

noncomputable def fO (L:bV) (cx:Cx) (k n:Nat) (R:ab):List (AV×AV)→aA×bJ→Option (aA×bJ)
 | [],s=>some s
 | kv::r,s=>match fU L cx k n R kv s with
   | some t=>fO L cx k n R r t
   | none=>none
end Go.Eng
end
section
namespace Go.Eng

end Go.Eng
end
section
namespace Go.Eng

def assemble:List Code→Code→Code→Code
 | [],C,suf=>.seq C suf
 | c::r,C,suf=>.seq c (assemble r C suf)
theorem Fv {cx:Cx} {F:Fence} {x y:Code} {fr fr1 fr':aA} {H H1 H':ab} {e:Ex} (hx:dQ cx.P F cx.ro cx.nt x fr H .normal fr1 H1) (hy:dQ cx.P F cx.ro cx.nt y fr1 H1 e fr' H'):dQ cx.P F cx.ro cx.nt (.seq x y) fr H e fr' H' :=
 fun n0 p M a w Q hF hH hne hR hM hQ=>wpIn_seq (hx n0 p M a w _ hF hH hne hR hM (fun a1 w1 ⟨p1,M1,k1,k2,k3⟩=>hy n0 p1 M1 a1 w1 Q k2 k1.rel (k1.ne hne) (hR.mono k1.mu) k3 (fun a2 w2 h2=>hQ a2 w2 (Hl.trans k1 h2))))
theorem wb {cx:Cx} {F:Fence} {x y:Code} {fr fr':aA} {H H':ab} {e:Ex} (he:e≠.normal) (hx:dQ cx.P F cx.ro cx.nt x fr H e fr' H'):dQ cx.P F cx.ro cx.nt (.seq x y) fr H e fr' H' :=
 fun n0 p M a w Q hF hH hne hR hM hQ=>wpIn_seq (hx n0 p M a w _ hF hH hne hR hM (fun a1 w1 hn=>by
  have:=hQ a1 w1 hn;cases e<;>first | exact absurd rfl he | exact this))

end Go.Eng
end
section
namespace Go.Eng

theorem FP {P:Program} {f:FuncId} {fn:Func} {c:Code} (hf:P.funcs[f]?=some fn) (hb:fn.body=some c) {args:List AV} (hle:args.length≤fn.ntmps) {H:ab} {e:Ex} {fr:aA} {l:bJ} {H':ab} (he:e=.normal∨e=.ret)
 {j ver off sz len:Nat} {cap:Option Nat} {q:Row} (hv:hJ P fr (l::H') fn.results.toList=some [.slc 0 j ver off sz len cap]) (hq:dg (l::H') 0 j ver=some q) (hl0:l.lock=false) (hl1:aL H' 0=false) (hne:H'≠[])
 (hC:dQ P Fence.wide none fn.ntmps c (fH 0 args) (⟨false,[]⟩::H) e fr (l::H')) {p:aF} {M:Mu} {w:World} {cargs:Array Value} (hH:bj p M H w) (hA:eH p M args cargs) :
 CallsIn Fence.wide 0 P f cargs w (eP p M H w (.slc 0 (ao H' 0) 0 off sz len cap) (bz H' 0 (.row (jd 1 q)))):=by
 refine callsIn_of_wp_marks hf hb trivial (hC w.heap.size p (dj M) _ w _ (rV hA hle) hH.down (by simp) rfl (Marks.nil _ _ _) (fun a' w' ⟨p',M',k1,k2,k3⟩=>?_)) rfl
 have main:LeavesInM Fence.wide 0 P fn a'.tmps (eP p M H w (.slc 0 (ao H' 0) 0 off sz len cap) (bz H' 0 (.row (jd 1 q)))) a'.defers .returning w':=by
  obtain ⟨rs,h1,h2,_,h3⟩:=k3;rw[h1];refine kG (p:=p) (M:=dj M) (H:=⟨false,[]⟩::H) (w:=w) (p':=p') (M':=M') (H':=l::H') (fun w2 hE=>?_) rs w' h2 (fun r hr=>⟨(h3 r hr).1,(h3 r hr).2.2⟩) k1;obtain ⟨cv,r1,r2⟩:=mf k2 hE.rel hv;have r2':al p' M' (.slc 0 j ver off sz len cap) cv:=r2;cases r2' with
  | slc hm h5 h6 h7 h8 =>
    rename_i b o t x cc;have mv:=hE.rel.move (d:=1) hq hm hl0 hl1 (by
     cases H' with
     | nil=>exact absurd rfl hne
     | cons y r=>simp) wO
    have hE2:=hE.trans mv;have hk:bz (ev (l::H') 0 j) 1 (.row (jd 1 q))=(⟨l.lock,(bQ l.bs j ((az (l::H') 0 j).1,.dead))⟩:bJ)::bz H' 0 (.row (jd 1 q)):=rfl;rw[hk] at hE2;refine ⟨_,r1,_,rfl,⟨fun d i hl=>hE2.same (d+1) i wO hl,fun d hl=>hE2.next (d+1) wO hl⟩,_,_,hE2.pop,?_⟩;refine .slc (b:=b) (o:=o) (t:=t) ?_ h5 h6 h7 h8;show br M' 1 (ao (l::H') 1) 0 (b,o,t) 1 (ao H' 0) 0=some (b,o,t);unfold br;exact if_pos ⟨rfl,rfl,rfl⟩
 rcases he with rfl | rfl
 · exact main
 · exact main

noncomputable def Gp (P:Program) (KT:FuncId→Nat→Nat) (fu:Nat) (f:FuncId) (call:aK) (args:List AV) (H:ab):Option (AV×ab) :=
 match P.funcs[f]? with
 | none=>none
 | some fn => match fn.body with
   | none=>none
   | some c=>if Nat.ble args.length fn.ntmps then
     match oM ⟨P,call,fu,f,fn.ntmps,KT f,none⟩ c (fH 0 args) (⟨false,[]⟩::H) with
     | some (e,fr,l::l1::H')=>(match e with
       | .normal | .ret=>match hJ P fr (l::l1::H') fn.results.toList with
         | some [.slc 0 j ver off sz len cap]=>match dg (l::l1::H') 0 j ver with
           | some q=>if l.lock || l1.lock then none else some (.slc 0 l1.bs.length 0 off sz len cap,bz (l1::H') 0 (.row (jd 1 q)))
           | none=>none
         | _=>none
       | _=>none)
     | _=>none
     else none
theorem Gq {P:Program} (hN:dG P) (hD:gb P) {f:FuncId} (KT:FuncId→Nat→Nat) (fu:Nat) {call:aK} (hC:b9 P call) {args:List AV} {H:ab} {v:AV} {H':ab} (h:Gp P KT fu f call args H=some (v,H'))
 {p:aF} {M:Mu} {w:World} {cargs:Array Value} (hH:bj p M H w) (hA:eH p M args cargs):(∃ fn,P.funcs[f]?=some fn∧fn.body.isNone=false)∧CallsIn Fence.wide 0 P f cargs w (eP p M H w v H'):=by
 unfold Gp at h
 split at h
 · simp at h
 rename_i fn hf
 split at h
 · simp at h
 rename_i c hb
 split at h
 case isFalse=>simp at h
 rename_i hle
 split at h
 case h_2=>simp at h
 rename_i e fr l l1 H1 he
 rw[fK] at he
 have hcode:=cV (cx:=⟨P,call,fu,f,fn.ntmps,KT f,none⟩) dJ.wide hN hC (more hN hD hC _ _ rfl rfl dJ.wide) _ _ _ _ _ _ he
 have fin:(e=.normal∨e=.ret)→(match hJ P fr (l::l1::H1) fn.results.toList with
  | some [.slc 0 j ver off sz len cap]=>match dg (l::l1::H1) 0 j ver with
    | some q=>if l.lock || l1.lock then none else some (AV.slc 0 l1.bs.length 0 off sz len cap,bz (l1::H1) 0 (.row (jd 1 q)))
    | none=>none
  | _=>none)=some (v,H')→(∃ fn,P.funcs[f]?=some fn∧fn.body.isNone=false)∧CallsIn Fence.wide 0 P f cargs w (eP p M H w v H'):=fun he h=>by
  split at h
  case h_2=>simp at h
  rename_i j ver off sz len cap hv
  split at h
  case h_2=>simp at h
  rename_i q hq
  split at h
  case isTrue=>simp at h
  rename_i hlk
  simp only[Bool.or_eq_true,not_or,Bool.not_eq_true] at hlk
  simp only[nP] at h
  obtain ⟨rfl,rfl⟩:=h
  exact ⟨⟨fn,hf,by rw[hb];rfl⟩,FP hf hb (by simpa using hle) he hv hq hlk.1 hlk.2 (by simp) hcode hH hA⟩
 split at h
 · exact fin (.inl rfl) h
 · exact fin (.inr rfl) h
 · simp at h

end Go.Eng
end
section
namespace Go.Eng

noncomputable def RE (P:Program) (KT:FuncId→Nat→Nat) (fu:Nat) (f:FuncId) (call:aK) (args:List AV) (H:ab):Option (AV×ab) :=
 match P.funcs[f]? with
 | none=>none
 | some fn => match fn.body with
   | none=>none
   | some c=>if Nat.ble args.length fn.ntmps then
     match oM ⟨P,call,fu,f,fn.ntmps,KT f,none⟩ c (fH 0 args) (⟨false,[]⟩::H) with
     | some (e,fr,l::l1::H')=>(match e with
       | .normal | .ret=>match hJ P fr (l::l1::H') fn.results.toList with
         | some [v0,.slc 0 j ver off sz len cap]=>match dg (l::l1::H') 0 j ver with
           | some q=>if l.lock || l1.lock then none else some (dE (bQ l.bs j ((az (l::l1::H') 0 j).1,.dead)) 5 (.tup [v0,.slc 1 l1.bs.length 0 off sz len cap]),bz (l1::H') 0 (.row (jd 1 q)))
           | none=>none
         | _=>none
       | _=>none)
     | _=>none
     else none
noncomputable def pj (P:Program) (KT:FuncId→Nat→Nat) (fu:Nat) (f:FuncId) (call:aK) (args:List AV) (H:ab):Option (AV×ab) :=
 match P.funcs[f]? with
 | none=>none
 | some fn=>match fn.body with
   | none=>none
   | some c=>if Nat.ble args.length fn.ntmps then
     match exec ⟨P,call,fu,f,fn.ntmps,KT f,none⟩ c (fH 0 args) (⟨false,[]⟩::H) with
     | some (e,fr,l::H')=>(match e with
       | .normal | .ret=>match hJ P fr (l::H') fn.results.toList with
         | some vs=>some (dE l.bs 5 (one vs),H')
         | none=>none
       | _=>none)
     | _=>none
     else none
theorem pn {P:Program} (hN:dG P) (hD:gb P) {f:FuncId} (KT:FuncId→Nat→Nat) (fu:Nat) {call:aK} (hC:b9 P call) {args:List AV} {H:ab} {v:AV} {H':ab} (h:pj P KT fu f call args H=some (v,H'))
 {p:aF} {M:Mu} {w:World} {cargs:Array Value} (hH:bj p M H w) (hA:eH p M args cargs):(∃ fn,P.funcs[f]?=some fn∧fn.body.isNone=false)∧CallsIn Fence.wide 0 P f cargs w (eP p M H w v H'):=by
 unfold pj at h
 split at h
 · simp at h
 rename_i fn hf
 split at h
 · simp at h
 rename_i c hb
 split at h
 case isFalse=>simp at h
 rename_i hle
 split at h
 case h_2=>simp at h
 rename_i e fr l H1 he
 have hcode:=cV (cx:=⟨P,call,fu,f,fn.ntmps,KT f,none⟩) dJ.wide hN hC (more hN hD hC _ _ rfl rfl dJ.wide) _ _ _ _ _ _ he
 have fin:(e=.normal∨e=.ret)→(match hJ P fr (l::H1) fn.results.toList with
  | some vs=>some (dE l.bs 5 (one vs),H1)
  | none=>none)=some (v,H')→(∃ fn,P.funcs[f]?=some fn∧fn.body.isNone=false)∧CallsIn Fence.wide 0 P f cargs w (eP p M H w v H'):=fun he h=>by
  split at h
  case h_2=>simp at h
  rename_i vs hv
  simp only[nP] at h
  obtain ⟨rfl,rfl⟩:=h
  exact ⟨⟨fn,hf,by rw[hb];rfl⟩,so hf hb (by simpa using hle) he hv hcode hH hA⟩
 split at h
 · exact fin (.inl rfl) h
 · exact fin (.inr rfl) h
 · simp at h
end Go.Eng
end
