/- The engine as a tree: calls that are carried out where they stand, and calls that are known. -/
import Derived.Test.YtgphpjdchnfjlaaDoorV6EngTfx2
import Derived.Test.YtgphpjdchnfjlaaDoorV6EngXx4
import Derived.Maps.RangeRun
set_option linter.unusedVariables false
set_option linter.unusedSimpArgs false
section
namespace Go.Eng
noncomputable section

def tP (tab:List cG):aL→FuncId→List AV→aa→Option (AV×aa):=fun call f args H =>
 cond (Nat.beq f 1000000) (match H with
  | []=>some (.undef,[])
  | _=>none) (By tab call f args H)
theorem Dd {P:Program} (tab:List cG) (hT:∀ e ∈ tab,aD P e):sg P (tP tab):=by
 intro call hC f args H v H' h hne;unfold tP at h;cases hb:Nat.beq f 1000000 with
 | true =>
   rw[hb,cond_true] at h;cases H with
   | nil=>exact absurd rfl hne
   | cons l r=>simp at h
 | false =>
   rw[hb,cond_false] at h;exact xi tab hT call hC f args H v H' h hne
abbrev nH:=FuncId→Option (List HV→aa→Tr (HV×aa))
def nH.Ok (tab:nH) (call:aL):Prop:=∀ f g,tab f=some g→∀ args H x,(g args H).run=some x→call (.fn f) (jW args) H=some (x.1.1,x.2)
variable (P:Program) (ora:aL→FuncId→List AV→aa→Option (AV×aa)) (KT:FuncId→Nat→Nat) (fu:Nat) (no:FuncId→Bool) (tab:nH) (n:Nat)
def Bg   : Nat→bp
 | 0 => fun tgt args H=>match tgt with
   | .fn g=>match tab g with
     | some c=>c args H
     | none=>.bad
   | _=>.bad
 | k + 1 => fun tgt args H=>match tgt with
   | .fn g=>match tab g with
     | some c=>c args H
     | none=>cond (no g) .bad (match P.funcs[g]? with
       | some fn=>match fn.body with
         | some _=>cond (Nat.ble (kC args) fn.ntmps) (bz P (df P ora KT fu (n+k)) fu g fn (KT g) (Bg k) aV aR args H) .bad
         | none=>.bad
       | none=>.bad)
   | _=>.bad
theorem wW (hno:∀ g,no g=false→∀ c args H,ora c g args H=none) (hm:∀ k,∃ x,df P ora KT fu k .mode [] []=some x) (ht:∀ k,tab.Ok (df P ora KT fu (n+k))):∀ k,(Bg P ora KT fu no tab n k).Ok (df P ora KT fu (n+k))
 | 0 => ⟨hm _,fun tgt args H x h=>by
   unfold Bg at h;split at h
   · split at h
     · rename_i c hc;exact ht 0 _ _ hc _ _ _ h
     · exact (Tr.ag h).elim
   · exact (Tr.ag h).elim⟩
 | k + 1 => ⟨hm _,fun tgt args H x h=>by
   unfold Bg at h;split at h
   · rename_i g;split at h
     · rename_i c hc;exact ht (k+1) _ _ hc _ _ _ h
     · obtain ⟨hn,h⟩:=Tr.kn h;split at h
       · rename_i fn hf;split at h
         · rename_i c hb;obtain ⟨hl,h⟩:=Tr.aY h;rw[eA] at hl;exact oY hf (by rw[hb];rfl) (hno g hn _ _ _) hl (wW hno hm ht k) (aj _ _) (ak _ _) h
         · exact (Tr.ag h).elim
       · exact (Tr.ag h).elim
   · exact (Tr.ag h).elim⟩
def aM:nH:=fun _=>none
theorem bo (call:aL):aM.Ok call:=fun _ _ h=>by cases h
def nK (t:nH) (f:FuncId) (g:List AV→aa→Tr (AV×aa)):nH:=fun x=>cond (Nat.beq x f) (some fun args H=>(g (jW args) H).bind fun y=>.ok ((y.1,none),y.2)) (t x)
theorem xP {t:nH} {f:FuncId} {g:List AV→aa→Tr (AV×aa)} {call:aL} (h:t.Ok call) (k:∀ args H x,(g args H).run=some x→call (.fn f) args H=some x):(nK t f g).Ok call:=by
 intro f' g' hg args H x hx;unfold nK at hg;cases hb:Nat.beq f' f with
 | true =>
   rw[hb,cond_true,Option.some.injEq] at hg;have:=Nat.eq_of_beq_eq_true hb;subst this;subst hg;obtain ⟨y,h1,h2⟩:=Tr.bind_some hx;have:=k _ _ _ h1;rw[← Tr.ab h2];exact this
 | false =>
   rw[hb,cond_false] at hg;exact h _ _ hg _ _ _ hx

def iz (t:nH) (f:FuncId) (g:List AV→Option (Prop×AV)):nH:=fun x=>cond (Nat.beq x f) (some fun args H=>match g (jW args) with
 | some (p,v)=>.reqP p (.ok ((v,none),H))
 | none=>.bad) (t x)
theorem ml {t:nH} {f:FuncId} {g:List AV→Option (Prop×AV)} {call:aL} (h:t.Ok call) (k:∀ args p v,g args=some (p,v)→p→∀ H,call (.fn f) args H=some (v,H)):(iz t f g).Ok call:=by
 intro f' g' hg args H x hx;unfold iz at hg;cases hb:Nat.beq f' f with
 | true =>
   rw[hb,cond_true,Option.some.injEq] at hg;have:=Nat.eq_of_beq_eq_true hb;subst this;subst hg;dsimp only at hx;split at hx
   · rename_i p v hp;obtain ⟨e1,hx⟩:=Tr.gx hx;rw[k _ p v hp e1 H,← Tr.ab hx]
   · exact (Tr.ag hx).elim
 | false =>
   rw[hb,cond_false] at hg;exact h _ _ hg _ _ _ hx
def xI (t:nH) (f:FuncId) (args0:List AV) (H0:aa) (u:Tr (AV×aa)):nH:=fun x=>cond (Nat.beq x f) (some fun args H=>.reqP (jW args=args0∧H=H0) (u.bind fun y=>.ok ((y.1,none),y.2))) (t x)
theorem fq {t:nH} {f:FuncId} {args0:List AV} {H0:aa} {u:Tr (AV×aa)} {call:aL} (h:t.Ok call) (k:∀ x,u.run=some x→call (.fn f) args0 H0=some x):(xI t f args0 H0 u).Ok call:=by
 intro f' g' hg args H x hx;unfold xI at hg;cases hb:Nat.beq f' f with
 | true =>
   rw[hb,cond_true,Option.some.injEq] at hg;have:=Nat.eq_of_beq_eq_true hb;subst this;subst hg;obtain ⟨⟨e1,e2⟩,hx⟩:=Tr.gx hx;obtain ⟨y,h1,h2⟩:=Tr.bind_some hx;rw[e1,e2,k _ h1,← Tr.ab h2]
 | false =>
   rw[hb,cond_false] at hg;exact h _ _ hg _ _ _ hx

theorem fj (z:Nat→Int):iO z 0=z:=by rw[mW];funext j;simp
end
end Go.Eng
end
section
namespace Go.Eng

theorem cE.name {p:aH} {M:Mu} {H:aa} {w:World} (h:bj p M H w) {k:Nat} (hk0:(az H 0 k).2=.dead) (hk:k<aq H 0) (hm0:∀ v,M 0 k v=none) (hl0:aK H 0=false) (x:Obj):cE p M H w p (bx M 0 k 0 (w.heap.size,0,0)) H (w.alloc x):=by
 have hle:Mu.le M (bx M 0 k 0 (w.heap.size,0,0)):=kF fun u hu=>by rw[hm0] at hu;cases hu
 have hs:=fA w x;have h':=h.stay hs;have mu:∀ d i v t,bx M 0 k 0 (w.heap.size,0,0) d i v=some t→(d=0∧i=k∧v=0∧t=(w.heap.size,0,0))∨M d i v=some t:=fun d i v t hm=>by
  simp only[bx] at hm;split at hm
  · rename_i e;exact .inl ⟨e.1,e.2.1,e.2.2,(Option.some.inj hm).symm⟩
  · exact .inr hm
 have dead:∀ {d i v B},az H d i=(v,B)→B≠.dead→¬ (d=0∧i=k):=fun {d i v B} hg hB e=>by
  rw[e.1,e.2] at hg;rw[hg] at hk0;exact hB hk0
 refine { cE.refl h with mu:=hle,rel:=⟨h'.pers,?_,?_,?_⟩,stay:=hs.weaken (fun _ _ _=>trivial),bE:=?_,own:=?_,new:=?_ }
 · intro d i v B hg hB;obtain ⟨b,o,t,k1,k2,k3⟩:=h'.live d i v B hg hB;exact ⟨b,o,t,hle _ _ _ _ k1,k2.mono (aH.le.refl _) (hle.up d) rfl,k3⟩
 · intro d i v B d' i' v' B' b o t o' t' hg hB hg' hB' hm hm';rcases mu _ _ _ _ hm with ⟨e1,e2,_⟩ | hm
   · exact absurd ⟨e1,e2⟩ (dead hg hB)
   · rcases mu _ _ _ _ hm' with ⟨e1,e2,_⟩ | hm'
     · exact absurd ⟨e1,e2⟩ (dead hg' hB')
     · exact h.apart d i v B d' i' v' B' b o t o' t' hg hB hg' hB' hm hm'
 · intro d i v t hm;rcases mu _ _ _ _ hm with ⟨e1,e2,e3,_⟩ | hm
   · rw[e1,e2,e3];exact ⟨hk,fun _=>Nat.zero_le _⟩
   · exact h.dom d i v t hm
 · intro b hb hkk d i v B hg hB hl o t hm;rcases mu _ _ _ _ hm with ⟨e1,e2,_⟩ | hm
   · exact dead hg hB ⟨e1,e2⟩
   · exact hkk d i v B hg hB hl o t hm
 · intro d i v b o t hm;rcases mu _ _ _ _ hm with ⟨_,_,_,e4⟩ | hm
   · simp only[Prod.mk.injEq] at e4;exact .inl wO
   · exact .inr ⟨_,_,_,_,_,Nat.le_refl _,hm⟩
 · intro d i v t hm;rcases mu _ _ _ _ hm with ⟨e1,_,_,_⟩ | hm
   · exact .inr (.inr (by rw[e1];exact hl0))
   · exact .inl hm

theorem s9 {p:aH} {M:Mu} {H:aa} {w:World} (h:bj p M H w) {r:Nat} {m:Option Nat} {s c:Nat} {seen:Array Nat} (hr:w.heap[r]?=some (.mapIter m s seen c)) {d i v:Nat} {B:ao} (hg:az H d i=(v,B)) (hB:B≠.dead) (o t:Nat):M d i v≠some (r,o,t):=by
 intro hm;obtain ⟨b,o',t',k1,k2,_⟩:=h.live d i v B hg hB;rw[hm] at k1;simp only[nP] at k1;obtain ⟨rfl,_,_⟩:=k1;cases B with
 | dead=>exact hB rfl
 | row q=>obtain ⟨_,_,e,_⟩:=k2;rw[hr] at e;simp at e
 | map es=>obtain ⟨_,_,e,_⟩:=k2;rw[hr] at e;simp at e
 | fmap kq f g c=>obtain ⟨_,_,_,_,e,_⟩:=k2;rw[hr] at e;simp at e
 | loop l=>obtain ⟨_,e,_⟩:=k2;rw[hr] at e;simp at e

theorem cE.ME {p p':aH} {M M':Mu} {H H':aa} {w w':World} (h:cE p M H w p' M' H' w') {r:Nat} {m:Option Nat} {s c:Nat} {seen:Array Nat} (hr:w'.heap[r]?=some (.mapIter m s seen c)) (hn:w.heap.size≤r) (x:Obj) :
 cE p M H w p' M' H' (Go.ChangeMaps.setBlock w' r x):=by
 have blk:∀ b,b≠r→(Go.ChangeMaps.setBlock w' r x).heap[b]?=w'.heap[b]?:=fun b hb=>by simp[Go.ChangeMaps.setBlock,Array.getElem?_setIfInBounds_ne (Ne.symm hb)]
 refine { h with rel:=⟨?_,?_,h.rel.apart,h.rel.dom⟩,stay:=⟨h.stay.os,h.stay.tape,h.stay.output,by simp[Go.ChangeMaps.setBlock];exact h.stay.size,fun b hb hk=>?_⟩ }
 · intro b o v hp
   have hc:=h.rel.pers b o v hp
   have hbr:b≠r:=by
    rintro rfl;simp[World.cell?,hr] at hc
   rw[← hc]
   exact World.cell?_of_block (w:=w') (blk b hbr)
 · intro d i v B hg hB
   obtain ⟨b,o,t,k1,k2,k3⟩:=h.rel.live d i v B hg hB
   have hbr:b≠r:=by
    rintro rfl;exact s9 h.rel hr hg hB o t k1
   exact ⟨b,o,t,k1,k2.mono (aH.le.refl _) (Mu.le.refl _) (blk b hbr),k3⟩
 · rw[blk b wO];exact h.stay.block b hb hk

theorem cE.drew {p p':aH} {M M':Mu} {H H':aa} {w w':World} (h:cE p M H w p' M' H' w'):cE p M H w p' M' H' w'.drew:=by
 have hs:dz (fun _=>True) w' w'.drew:=⟨rfl,rfl,rfl,Nat.le_refl _,fun _ _ _=>rfl⟩
 exact { h with rel:=h.rel.stay hs,stay:=h.stay.trans hs (fun _ _ _=>trivial) }

end Go.Eng
end
section
namespace Go.Eng
open Go.ChangeMaps (setBlock)

theorem xf {P:Program} {F:Fence} (hFW:dI F) {o:Oper} (hd:∀ c,o.op≠.defer c) {a:Act} {w w':World} {cv:Value} (h:(execOp a.eval o).run P w=.ok (.value cv) w') {n:Nat} {next:Act→World→Prop} {Q:Exit→Act→World→Prop} (hn:next (a.put o.dst cv) w'):o.wpIn F n P a w next Q:=by
 refine ⟨kg hFW P o w a,?_⟩;rw[Oper.semAt_eq _ _ _ hd,h];exact hn

theorem Marks.ME {n0:Nat} {M:Mu} {H:aa} {w:World} {ds:List Deferred} (h:Marks n0 M H w ds) {r:Nat} {m:Option Nat} {s c:Nat} {seen:Array Nat} (hr:w.heap[r]?=some (.mapIter m s seen c)) (x:Obj):Marks n0 M H (setBlock w r x) ds:=by
 obtain ⟨rs,h1,h2,h0,h3⟩:=h;refine ⟨rs,h1,h2,by simpa[setBlock] using h0,fun q hq=>?_⟩;obtain ⟨k1,k2,k3⟩:=h3 q hq;have hne:q≠r:=by rintro rfl;rw[hr] at k1;simp at k1
 exact ⟨by simp[setBlock,Array.getElem?_setIfInBounds_ne (Ne.symm hne)];exact k1,k2,k3⟩
theorem Marks.drew {n0:Nat} {M:Mu} {H:aa} {w:World} {ds:List Deferred} (h:Marks n0 M H w ds):Marks n0 M H w.drew ds:=h

structure bW where
 out:Nat
 Be:Nat
 id2:Nat
 nxt:Nat
 ops1:Array Oper
 ops2:Array Oper
 no:Oper
 eo:Oper
 t1:List Oper
 t2:List Oper
 it:Tmp
 nx:Tmp
 mo:Tmp
 en:Tmp
 rest:Code
 km:Nat
def bW.code (L:bW):Code:=.block L.out (.loop (.seq (.region L.Be L.ops1 false) (.seq (.cond (.tmp L.mo) .skip (.exit L.out)) (.block L.nxt (.seq (.region L.id2 L.ops2 false) L.rest)))))
structure bW.Ok (L:bW):Prop where
 l1:L.ops1.toList=L.no::L.t1
 o1:L.no.op=.next (.tmp L.it) false
 d1:L.no.dst=some L.nx
 g1:L.no.guard=none
 l2:L.ops2.toList=L.eo::L.t2
 o2:L.eo.op=.entry (.tmp L.it)
 d2:L.eo.dst=some L.en
 g2:L.eo.guard=none

def oo (k:Nat) (v:AV):Bool :=
 match v with
 | .ptr 0 i 0 0=>Nat.beq i k
 | _=>false
theorem qo {k:Nat} {v:AV} (h:oo k v=true):v=.ptr 0 k 0 0:=by
 unfold oo at h;split at h
 · rw[Nat.eq_of_beq_eq_true h]
 · cases h
def Oq (b:Bool) (v:AV):Bool :=
 match v with
 | .bool c=>c == b
 | _=>false
theorem Gg {b:Bool} {v:AV} (h:Oq b v=true):v=.bool b:=by
 unfold Oq at h;split at h
 · rw[beq_iff_eq] at h;rw[h]
 · cases h

noncomputable def bW.round (L:bW) (cx:Cx) (k n:Nat) (kv:AV×AV) (fr:aE) (H:aa):Option (aE×aa) :=
 match lL cx.P cx.nt cx.call L.ops1 L.t1 (iJ cx.nt fr (some L.nx) (.tup [.bool true,kv.1,kv.2])) H with
 | some (frA,HA)=>if Oq true (bM frA L.mo) && oo k (bM frA L.it) then
    match lL cx.P cx.nt cx.call L.ops2 L.t2 (iJ cx.nt frA (some L.en) (.tup [kv.1,kv.2])) HA with
    | some (frB,HB)=>match pe cx L.rest frB HB with
      | some (.normal,frC,HC)=>if oo k (bM (bT frC L.km) L.it) then some (bT frC L.km,mn n (bT frC L.km) HC) else none
      | _=>none
    | none=>none
   else none
 | none=>none
noncomputable def bW.last (L:bW) (cx:Cx) (fr:aE) (H:aa):Option (aE×aa) :=
 match lL cx.P cx.nt cx.call L.ops1 L.t1 (iJ cx.nt fr (some L.nx) (.tup [.bool false])) H with
 | some (frE,HE)=>if Oq false (bM frE L.mo) then some (frE,HE) else none
 | none=>none

def uj (r:Nat) (w:World):Array Nat :=
 match w.heap[r]? with
 | some (.mapIter _ _ s _)=>s
 | _=>#[]

theorem Ef {ces:Array MapEntry} {seen:Array Nat} {e:MapEntry} (he:e ∈ (leftOf ces seen).toList):(leftOf ces (seen.push e.born)).size<(leftOf ces seen).size:=by
 unfold leftOf at he ⊢;rw[Array.toList_filter] at he;have sz:∀ f:MapEntry→Bool,(ces.filter f).size=(ces.toList.filter f).length:=fun f=>by rw[← Array.toList_filter,Array.length_toList]
 rw[sz,sz];have mono:∀ x:MapEntry,seen.contains x.born=true→(seen.push e.born).contains x.born=true:=fun x h=>by
  rw[Array.contains_push,h];simp
 have self:(seen.push e.born).contains e.born=true:=by rw[Array.contains_push];simp
 have hle:∀ (l:List MapEntry),(l.filter fun x=>!(seen.push e.born).contains x.born).length≤(l.filter fun x=>!seen.contains x.born).length:=by
  intro l;induction l with
  | nil=>exact Nat.le_refl _
  | cons x l ih =>
    rw[List.filter_cons,List.filter_cons];cases h1:seen.contains x.born with
    | true =>
      rw[mono x h1];simp only[Bool.not_true,Bool.false_eq_true,if_false];exact ih
    | false =>
      cases h2:(seen.push e.born).contains x.born with
      | true=>simp only[Bool.not_true,Bool.false_eq_true,if_false,Bool.not_false,if_true,List.length_cons];exact Nat.le_succ_of_le ih
      | false=>simp only[Bool.not_false,if_true,List.length_cons];exact Nat.succ_le_succ ih
 have hlt:∀ (l:List MapEntry),e ∈ (l.filter fun x=>!seen.contains x.born)→(l.filter fun x=>!(seen.push e.born).contains x.born).length<(l.filter fun x=>!seen.contains x.born).length:=by
  intro l;induction l with
  | nil=>intro h;cases h
  | cons x l ih =>
    intro h;rw[List.filter_cons] at h;rw[List.filter_cons,List.filter_cons];cases h1:seen.contains x.born with
    | true =>
      rw[h1] at h;simp only[Bool.not_true,Bool.false_eq_true,if_false] at h;rw[mono x h1];simp only[Bool.not_true,Bool.false_eq_true,if_false];exact ih h
    | false =>
      rw[h1] at h;simp only[Bool.not_false,if_true] at h;cases h2:(seen.push e.born).contains x.born with
      | true =>
        simp only[Bool.not_true,Bool.false_eq_true,if_false,Bool.not_false,if_true,List.length_cons];exact Nat.lt_succ_of_le (hle l)
      | false =>
        simp only[Bool.not_false,if_true,List.length_cons];rcases List.mem_cons.1 h with h | h
        · rw[← h,self] at h2;cases h2
        · exact Nat.succ_lt_succ (ih h)
 exact hlt _ he

end Go.Eng
end
section
namespace Go.Eng

def dj:aa→aa
 | []=>[]
 | l::r=>l::bG r
theorem fX (H:aa) (d i:Nat):az (dj H) d i=az H d i:=by
 cases H with
 | nil=>rfl
 | cons l r=>cases d with
   | zero=>rfl
   | succ d=>exact iE r d i
theorem fh (H:aa) (d:Nat):aq (dj H) d=aq H d:=by
 cases H with
 | nil=>rfl
 | cons l r=>cases d with
   | zero=>rfl
   | succ d=>exact fm r d
theorem bj.same {p:aH} {M:Mu} {H K:aa} {w:World} (h:bj p M H w) (hg:∀ d i,az K d i=az H d i) (hn:∀ d,aq K d=aq H d):bj p M K w :=
 h.under ⟨fun d i=>.inl (hg d i),hn⟩

theorem cE.unlock {p p':aH} {M M':Mu} {l l':bK} {r:aa} {w w':World} (h:bj p M (l::r) w) (h0:l.lock=false) (hE:cE p M (dj (l::r)) w p' M' (l'::bG r) w'):cE p M (l::r) w p' M' (l'::r) w':=by
 have get:∀ d i,az (l'::r) d i=az (l'::bG r) d i:=fun d i=>by
  cases d with
  | zero=>rfl
  | succ d=>exact (iE r d i).symm
 have next:∀ d,aq (l'::r) d=aq (l'::bG r) d:=fun d=>by
  cases d with
  | zero=>rfl
  | succ d=>exact (fm r d).symm
 have hl':l'.lock=false:=by have:=hE.lock 0;exact this.trans h0
 refine ⟨hE.pst,hE.mu,hE.rel.same get next,hE.stay.weaken (fun b hb hk d i v B hg hB hl o t=>?_),fun b hb hk d i v B hg hB hl o t hm=>?_,hE.fresh,hE.own,fun d=>?_,fun d i hd hl=>?_,fun d hd hl=>?_,?_,fun d=>?_,fun d i v t hm=>?_⟩
 · rw[fX] at hg;cases d with
   | zero=>exact hk 0 i v B hg hB h0 o t
   | succ d =>
     have:aK (dj (l::r)) (d+1)=true:=ct r d;rw[this] at hl;cases hl
 · cases d with
   | zero =>
     have hkb:Go.Eng.bE M (dj (l::r)) b:=fun d i v B hg hB hl o t=>by
      rw[fX] at hg;cases d with
      | zero=>exact hk 0 i v B hg hB h0 o t
      | succ d =>
        have:aK (dj (l::r)) (d+1)=true:=ct r d;rw[this] at hl;cases hl
     exact hE.bE b hb hkb 0 i v B hg hB hl' o t hm
   | succ d =>
     have hg':az (l::r) (d+1) i=(v,B):=hg;obtain ⟨b2,o2,t2,k1,_,_⟩:=h.live (d+1) i v B hg' hB;have k2:=hE.mu _ _ _ _ k1;rw[hm] at k2;simp only[nP] at k2;exact hk (d+1) i v B hg' hB hl o2 t2 (by rw[k1,← k2.1])
 · cases d with
   | zero=>exact hl'.trans h0.symm
   | succ d=>rfl
 · cases d with
   | zero=>exact absurd rfl hd
   | succ d=>rfl
 · cases d with
   | zero=>exact absurd rfl hd
   | succ d=>rfl
 · simp
 · rw[next];have:=hE.grow d;rw[fh] at this;exact this
 · rcases hE.new d i v t hm with h1 | h1 | h1
   · exact .inl h1
   · rw[fh] at h1;exact .inr (.inl h1)
   · cases d with
     | zero=>exact .inr (.inr h0)
     | succ d =>
       have:aK (dj (l::r)) (d+1)=true:=ct r d;rw[this] at h1;cases h1

theorem mT {P:Program} {F:Fence} (hFW:dI F) (hN:dG P) {call:aL} (hC:cj P call) {nt:Nat} {ops:Array Oper} {n:Nat} {Q:Exit→Act→World→Prop} {l2:List Oper}:∀ (l:List Oper) (fr:aE) (H:aa) (fr':aE) (H':aa),
 fb P nt call ops l fr H=some (fr',H')→∀ (p:aH) (M:Mu) (a:Act) (w:World),bZ p M nt fr a→bj p M H w→H≠[] →
 (∀ a' w',At p M H w nt a.defers fr' H' a' w'→wpListIn F n P ops Q l2 a' w')→wpListIn F n P ops Q (l++l2) a w
 | [],fr,H,fr',H',h,p,M,a,w,hF,hH,hne,hQ=>by
   simp only[fb,Option.some.injEq,Prod.mk.injEq] at h;obtain ⟨rfl,rfl⟩:=h;exact hQ a w ⟨p,M,cE.refl hH,hF,rfl⟩
 | o :: l,fr,H,fr',H',h,p,M,a,w,hF,hH,hne,hQ=>by
   simp only[fb] at h;have hw:=uD hF ops o;rw[List.cons_append];unfold wpListIn;cases hwv:lX ops fr o with
   | lost=>rw[hwv] at h;simp at h
   | skip =>
     rw[hwv] at h;simp only at h;rw[if_neg (by rw[hw.2 hwv];simp)];exact ⟨kg hFW P o w a,mT hFW hN hC l _ H fr' H' h p M _ w (hF.put o.dst qJ) hH hne (fun a' w' ha=>hQ a' w' (by rw[put_defers] at ha;exact ha))⟩
   | run =>
     rw[hwv] at h;simp only at h;rw[if_pos (hw.1 hwv)];cases he:evalOp P call fr H (aX H) o with
     | none=>rw[he] at h;simp at h
     | some vd =>
       obtain ⟨v,δ⟩:=vd;rw[he] at h;simp only at h;refine Da hFW hN hC he hF hH hne (fun cv w' ⟨p',M',hE,hv⟩=>?_);refine mT hFW hN hC l _ _ fr' H' h p' M' _ w' ((hF.mono hE.pst hE.mu).put o.dst hv) hE.rel (hE.ne hne) (fun a' w'' ⟨p'',M'',hE',hF',hd⟩=>?_);exact hQ a' w'' ⟨p'',M'',hE.trans hE',hF',by rw[put_defers] at hd;exact hd⟩

end Go.Eng
end
section
namespace Go.Eng

end Go.Eng
end
section
namespace Go.Eng

structure eF where
 id0:Nat
 ops0:Array Oper
 pre:List Oper
 ro:Oper
 m:Tmp
 ty:TypeId
def eF.code (S:eF) (L:bW):Code:=.seq (.region S.id0 S.ops0 false) L.code
structure eF.Ok (P:Program) (S:eF) (L:bW):Prop where
 l0:S.ops0.toList=S.pre++[S.ro]
 o0:S.ro.op=.range S.ty (.tmp S.m)
 d0:S.ro.dst=some L.it
 g0:S.ro.guard=none
 t0:∃ k e,P.underlying S.ty=some (.map k e)

noncomputable def fZ (L:bW) (cx:Cx) (k n:Nat) (R:aa) (kv:AV×AV) (s:aE×bK):Option (aE×bK) :=
 match L.round cx k n kv s.1 (s.2::R) with
 | some (fr,l::_)=>some (fr,l)
 | _=>none
theorem ri {L:bW} {cx:Cx} {k n:Nat} {R:aa} {kv:AV×AV} {s t:aE×bK} (h:fZ L cx k n R kv s=some t):∃ R1,L.round cx k n kv s.1 (s.2::R)=some (t.1,t.2::R1):=by
 unfold fZ at h;split at h
 · rename_i fr l R1 e;simp only[Option.some.injEq] at h;subst h;exact ⟨R1,e⟩
 · cases h

noncomputable def fS (L:bW) (cx:Cx) (k n:Nat) (R:aa):List (AV×AV)→aE×bK→Option (aE×bK)
 | [],s=>some s
 | kv::r,s=>match fZ L cx k n R kv s with
   | some t=>fS L cx k n R r t
   | none=>none
end Go.Eng
end
section
namespace Go.Eng

end Go.Eng
end
section
namespace Go.Eng

def assemble:List Code→Code→Code→Code
 | [],C,suf=>.seq C suf
 | c::r,C,suf=>.seq c (assemble r C suf)
theorem FB {cx:Cx} {F:Fence} {x y:Code} {fr fr1 fr':aE} {H H1 H':aa} {e:Ex} (hx:dP cx.P F cx.ro cx.nt x fr H .normal fr1 H1) (hy:dP cx.P F cx.ro cx.nt y fr1 H1 e fr' H'):dP cx.P F cx.ro cx.nt (.seq x y) fr H e fr' H' :=
 fun n0 p M a w Q hF hH hne hR hM hQ=>wpIn_seq (hx n0 p M a w _ hF hH hne hR hM (fun a1 w1 ⟨p1,M1,k1,k2,k3⟩=>hy n0 p1 M1 a1 w1 Q k2 k1.rel (k1.ne hne) (hR.mono k1.mu) k3 (fun a2 w2 h2=>hQ a2 w2 (HG.trans k1 h2))))
theorem wx {cx:Cx} {F:Fence} {x y:Code} {fr fr':aE} {H H':aa} {e:Ex} (he:e≠.normal) (hx:dP cx.P F cx.ro cx.nt x fr H e fr' H'):dP cx.P F cx.ro cx.nt (.seq x y) fr H e fr' H' :=
 fun n0 p M a w Q hF hH hne hR hM hQ=>wpIn_seq (hx n0 p M a w _ hF hH hne hR hM (fun a1 w1 hn=>by
  have:=hQ a1 w1 hn;cases e<;>first | exact absurd rfl he | exact this))

end Go.Eng
end
section
namespace Go.Eng

theorem FZ {P:Program} {f:FuncId} {fn:Func} {c:Code} (hf:P.funcs[f]?=some fn) (hb:fn.body=some c) {args:List AV} (hle:args.length≤fn.ntmps) {H:aa} {e:Ex} {fr:aE} {l:bK} {H':aa} (he:e=.normal∨e=.ret)
 {j ver off sz len:Nat} {cap:Option Nat} {q:Row} (hv:gy P fr (l::H') fn.results.toList=some [.slc 0 j ver off sz len cap]) (hq:cX (l::H') 0 j ver=some q) (hl0:l.lock=false) (hl1:aK H' 0=false) (hne:H'≠[])
 (hC:dP P Fence.wide none fn.ntmps c (eh 0 args) (⟨false,[]⟩::H) e fr (l::H')) {p:aH} {M:Mu} {w:World} {cargs:Array Value} (hH:bj p M H w) (hA:eN p M args cargs) :
 CallsIn Fence.wide 0 P f cargs w (eX p M H w (.slc 0 (aq H' 0) 0 off sz len cap) (bB H' 0 (.row (jx 1 q)))):=by
 refine callsIn_of_wp_marks hf hb trivial (hC w.heap.size p (dk M) _ w _ (sl hA hle) hH.down (by simp) rfl (Marks.nil _ _ _) (fun a' w' ⟨p',M',k1,k2,k3⟩=>?_)) rfl
 have main:LeavesInM Fence.wide 0 P fn a'.tmps (eX p M H w (.slc 0 (aq H' 0) 0 off sz len cap) (bB H' 0 (.row (jx 1 q)))) a'.defers .returning w':=by
  obtain ⟨rs,h1,h2,_,h3⟩:=k3;rw[h1];refine lr (p:=p) (M:=dk M) (H:=⟨false,[]⟩::H) (w:=w) (p':=p') (M':=M') (H':=l::H') (fun w2 hE=>?_) rs w' h2 (fun r hr=>⟨(h3 r hr).1,(h3 r hr).2.2⟩) k1;obtain ⟨cv,r1,r2⟩:=mR k2 hE.rel hv;have r2':al p' M' (.slc 0 j ver off sz len cap) cv:=r2;cases r2' with
  | slc hm h5 h6 h7 h8 =>
    rename_i b o t x cc;have mv:=hE.rel.move (d:=1) hq hm hl0 hl1 (by
     cases H' with
     | nil=>exact absurd rfl hne
     | cons y r=>simp) wO
    have hE2:=hE.trans mv;have hk:bB (dN (l::H') 0 j) 1 (.row (jx 1 q))=(⟨l.lock,(bR l.bs j ((az (l::H') 0 j).1,.dead))⟩:bK)::bB H' 0 (.row (jx 1 q)):=rfl;rw[hk] at hE2;refine ⟨_,r1,_,rfl,⟨fun d i hl=>hE2.same (d+1) i wO hl,fun d hl=>hE2.next (d+1) wO hl⟩,_,_,hE2.pop,?_⟩;refine .slc (b:=b) (o:=o) (t:=t) ?_ h5 h6 h7 h8;show bx M' 1 (aq (l::H') 1) 0 (b,o,t) 1 (aq H' 0) 0=some (b,o,t);unfold bx;exact if_pos ⟨rfl,rfl,rfl⟩
 rcases he with rfl | rfl
 · exact main
 · exact main

noncomputable def nS (P:Program) (KT:FuncId→Nat→Nat) (fu:Nat) (f:FuncId) (call:aL) (args:List AV) (H:aa):Option (AV×aa) :=
 match P.funcs[f]? with
 | none=>none
 | some fn => match fn.body with
   | none=>none
   | some c=>if Nat.ble args.length fn.ntmps then
     match pe ⟨P,call,fu,f,fn.ntmps,KT f,none⟩ c (eh 0 args) (⟨false,[]⟩::H) with
     | some (e,fr,l::l1::H')=>(match e with
       | .normal | .ret=>match gy P fr (l::l1::H') fn.results.toList with
         | some [.slc 0 j ver off sz len cap]=>match cX (l::l1::H') 0 j ver with
           | some q=>if l.lock || l1.lock then none else some (.slc 0 l1.bs.length 0 off sz len cap,bB (l1::H') 0 (.row (jx 1 q)))
           | none=>none
         | _=>none
       | _=>none)
     | _=>none
     else none
theorem GD {P:Program} (hN:dG P) (hD:gl P) {f:FuncId} (KT:FuncId→Nat→Nat) (fu:Nat) {call:aL} (hC:cj P call) {args:List AV} {H:aa} {v:AV} {H':aa} (h:nS P KT fu f call args H=some (v,H'))
 {p:aH} {M:Mu} {w:World} {cargs:Array Value} (hH:bj p M H w) (hA:eN p M args cargs):(∃ fn,P.funcs[f]?=some fn∧fn.body.isNone=false)∧CallsIn Fence.wide 0 P f cargs w (eX p M H w v H'):=by
 unfold nS at h
 split at h
 · simp at h
 rename_i fn hf
 split at h
 · simp at h
 rename_i c hb
 split at h
 case isFalse=>simp at h
 rename_i hle
 split at h
 case h_2=>simp at h
 rename_i e fr l l1 H1 he
 rw[eJ] at he
 have hcode:=cW (cx:=⟨P,call,fu,f,fn.ntmps,KT f,none⟩) dI.wide hN hC (more hN hD hC _ _ rfl rfl dI.wide) _ _ _ _ _ _ he
 have fin:(e=.normal∨e=.ret)→(match gy P fr (l::l1::H1) fn.results.toList with
  | some [.slc 0 j ver off sz len cap]=>match cX (l::l1::H1) 0 j ver with
    | some q=>if l.lock || l1.lock then none else some (AV.slc 0 l1.bs.length 0 off sz len cap,bB (l1::H1) 0 (.row (jx 1 q)))
    | none=>none
  | _=>none)=some (v,H')→(∃ fn,P.funcs[f]?=some fn∧fn.body.isNone=false)∧CallsIn Fence.wide 0 P f cargs w (eX p M H w v H'):=fun he h=>by
  split at h
  case h_2=>simp at h
  rename_i j ver off sz len cap hv
  split at h
  case h_2=>simp at h
  rename_i q hq
  split at h
  case isTrue=>simp at h
  rename_i hlk
  simp only[Bool.or_eq_true,not_or,Bool.not_eq_true] at hlk
  simp only[nP] at h
  obtain ⟨rfl,rfl⟩:=h
  exact ⟨⟨fn,hf,by rw[hb];rfl⟩,FZ hf hb (by simpa using hle) he hv hq hlk.1 hlk.2 (by simp) hcode hH hA⟩
 split at h
 · exact fin (.inl rfl) h
 · exact fin (.inr rfl) h
 · simp at h

end Go.Eng
end
section
namespace Go.Eng

noncomputable def Ry (P:Program) (KT:FuncId→Nat→Nat) (fu:Nat) (f:FuncId) (call:aL) (args:List AV) (H:aa):Option (AV×aa) :=
 match P.funcs[f]? with
 | none=>none
 | some fn => match fn.body with
   | none=>none
   | some c=>if Nat.ble args.length fn.ntmps then
     match pe ⟨P,call,fu,f,fn.ntmps,KT f,none⟩ c (eh 0 args) (⟨false,[]⟩::H) with
     | some (e,fr,l::l1::H')=>(match e with
       | .normal | .ret=>match gy P fr (l::l1::H') fn.results.toList with
         | some [v0,.slc 0 j ver off sz len cap]=>match cX (l::l1::H') 0 j ver with
           | some q=>if l.lock || l1.lock then none else some (dE (bR l.bs j ((az (l::l1::H') 0 j).1,.dead)) 5 (.tup [v0,.slc 1 l1.bs.length 0 off sz len cap]),bB (l1::H') 0 (.row (jx 1 q)))
           | none=>none
         | _=>none
       | _=>none)
     | _=>none
     else none
noncomputable def oL (P:Program) (KT:FuncId→Nat→Nat) (fu:Nat) (f:FuncId) (call:aL) (args:List AV) (H:aa):Option (AV×aa) :=
 match P.funcs[f]? with
 | none=>none
 | some fn=>match fn.body with
   | none=>none
   | some c=>if Nat.ble args.length fn.ntmps then
     match exec ⟨P,call,fu,f,fn.ntmps,KT f,none⟩ c (eh 0 args) (⟨false,[]⟩::H) with
     | some (e,fr,l::H')=>(match e with
       | .normal | .ret=>match gy P fr (l::H') fn.results.toList with
         | some vs=>some (dE l.bs 5 (one vs),H')
         | none=>none
       | _=>none)
     | _=>none
     else none
theorem pP {P:Program} (hN:dG P) (hD:gl P) {f:FuncId} (KT:FuncId→Nat→Nat) (fu:Nat) {call:aL} (hC:cj P call) {args:List AV} {H:aa} {v:AV} {H':aa} (h:oL P KT fu f call args H=some (v,H'))
 {p:aH} {M:Mu} {w:World} {cargs:Array Value} (hH:bj p M H w) (hA:eN p M args cargs):(∃ fn,P.funcs[f]?=some fn∧fn.body.isNone=false)∧CallsIn Fence.wide 0 P f cargs w (eX p M H w v H'):=by
 unfold oL at h
 split at h
 · simp at h
 rename_i fn hf
 split at h
 · simp at h
 rename_i c hb
 split at h
 case isFalse=>simp at h
 rename_i hle
 split at h
 case h_2=>simp at h
 rename_i e fr l H1 he
 have hcode:=cW (cx:=⟨P,call,fu,f,fn.ntmps,KT f,none⟩) dI.wide hN hC (more hN hD hC _ _ rfl rfl dI.wide) _ _ _ _ _ _ he
 have fin:(e=.normal∨e=.ret)→(match gy P fr (l::H1) fn.results.toList with
  | some vs=>some (dE l.bs 5 (one vs),H1)
  | none=>none)=some (v,H')→(∃ fn,P.funcs[f]?=some fn∧fn.body.isNone=false)∧CallsIn Fence.wide 0 P f cargs w (eX p M H w v H'):=fun he h=>by
  split at h
  case h_2=>simp at h
  rename_i vs hv
  simp only[nP] at h
  obtain ⟨rfl,rfl⟩:=h
  exact ⟨⟨fn,hf,by rw[hb];rfl⟩,sN hf hb (by simpa using hle) he hv hcode hH hA⟩
 split at h
 · exact fin (.inl rfl) h
 · exact fin (.inr rfl) h
 · simp at h
end Go.Eng
end
