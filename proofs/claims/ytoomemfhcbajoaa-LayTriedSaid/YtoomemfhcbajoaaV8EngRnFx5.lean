/- The engine: loops over maps whose outcome, if they are run to their end, does not hang on the order. -/
import Derived.Test.YtoomemfhcbajoaaV8EngRnLx7
import Derived.Test.YtoomemfhcbajoaaV8EngOrax2
import Derived.ProofKit
import Derived.Test.YtoomemfhcbajoaaV8EngTfx2
set_option linter.unusedVariables false
set_option linter.unusedSimpArgs false
section
namespace Go.Eng
open Go.ChangeMaps (setBlock)

theorem pB {L:bm} {cx:Cx} {k n:Nat} {R:aa}:∀ (a b:List (AV×AV)) (s:aq×aV),fc L cx k n R (a++b) s=(fc L cx k n R a s).bind (fc L cx k n R b)
 | [],b,s=>rfl
 | kv::a,b,s=>by
   show (match dG L cx k n R kv s with | some t=>fc L cx k n R (a++b) t | none=>none)=(match dG L cx k n R kv s with | some t=>fc L cx k n R a t | none=>none).bind _
   cases dG L cx k n R kv s with
   | none=>rfl
   | some t=>exact pB a b t
theorem Dk {L:bm} {cx:Cx} {k n:Nat} {R:aa} {kv:AV×AV} {s t:aq×aV} (h:dG L cx k n R kv s=some t):bk t.1 L.it=.ptr 0 k 0 0:=by
 obtain ⟨R1,h⟩:=fM h
 unfold bm.round at h
 split at h
 · split at h
   · split at h
     · split at h
       · split at h
         · rename_i hp
           simp only[nP] at h
           rw[← h.1];exact eO hp
         · simp at h
       · simp at h
     · simp at h
   · simp at h
 · simp at h
theorem El {L:bm} {cx:Cx} {k n:Nat} {R:aa} {s0:aq×aV} (h0:bk s0.1 L.it=.ptr 0 k 0 0):∀ (l:List (AV×AV)) (s:aq×aV),fc L cx k n R l s0=some s→bk s.1 L.it=.ptr 0 k 0 0:=by
 intro l
 induction l generalizing s0 with
 | nil=>intro s h;simp only[fc,Option.some.injEq] at h;subst h;exact h0
 | cons kv l ih =>
   intro s h
   simp only[fc] at h
   cases hr:dG L cx k n R kv s0 with
   | none=>rw[hr] at h;simp at h
   | some t=>rw[hr] at h;exact ih (Dk hr) s h
theorem xD {vs:List Nat} {n:Nat} (hn:vs.Nodup) (hl:∀ j ∈ vs,j<n) (hin:∀ j,j<n→j ∈ vs):vs.length=n:=by
 have hp:vs.Perm (List.range n):=(List.perm_ext_iff_of_nodup hn List.nodup_range).2 (fun a=>by rw[List.mem_range];exact ⟨hl a,hin a⟩)
 have:=hp.length_eq
 simpa using this
theorem CS {L:bm} {cx:Cx} {k n:Nat} {R:aa} {es:List (AV×AV)} {s0:aq×aV} (hall:∀ vs:List Nat,vs.Nodup→vs.length=es.length→(∀ j ∈ vs,j<es.length)→∃ s,fc L cx k n R (vs.map fun j=>es.getD j (.undef,.undef)) s0=some s)
 {vs:List Nat} (hn:vs.Nodup) (hl:∀ j ∈ vs,j<es.length) {s:aq×aV} (hf:fc L cx k n R (vs.map fun j=>es.getD j (.undef,.undef)) s0=some s) {j:Nat} (hj:j<es.length) (hjv:j ∉ vs) :
 ∃ t,fc L cx k n R ((vs++[j]).map fun j=>es.getD j (.undef,.undef)) s0=some t∧dG L cx k n R (es.getD j (.undef,.undef)) s=some t:=by
 let ws:=(vs++[j])++(List.range es.length).filter fun i=>!(vs++[j]).contains i
 have hnj:(vs++[j]).Nodup:=List.nodup_append.2 ⟨hn,by simp,fun x hx y hy e=>by
  rw[List.mem_singleton] at hy
  subst hy;subst e;exact hjv hx⟩
 have hlj:∀ i ∈ vs++[j],i<es.length:=fun i hi=>by
  rcases List.mem_append.1 hi with h | h
  · exact hl i h
  · rw[List.mem_singleton] at h;rw[h];exact hj
 have hwn:ws.Nodup:=List.nodup_append.2 ⟨hnj,List.Nodup.sublist List.filter_sublist List.nodup_range,fun x hx y hy e=>by
  subst e
  have:=(List.mem_filter.1 hy).2
  simp only[Bool.not_eq_true',List.contains_eq_mem,decide_eq_false_iff_not] at this
  exact this hx⟩
 have hwl:∀ i ∈ ws,i<es.length:=fun i hi=>by
  rcases List.mem_append.1 hi with h | h
  · exact hlj i h
  · exact List.mem_range.1 (List.mem_filter.1 h).1
 have hwi:∀ i,i<es.length→i ∈ ws:=fun i hi=>by
  by_cases e:i ∈ vs++[j]
  · exact List.mem_append.2 (.inl e)
  · exact List.mem_append.2 (.inr (List.mem_filter.2 ⟨List.mem_range.2 hi,by simpa using e⟩))
 obtain ⟨u,hu⟩:=hall ws hwn (xD hwn hwl hwi) hwl
 rw[List.map_append,pB] at hu
 cases ht:fc L cx k n R ((vs++[j]).map fun j=>es.getD j (.undef,.undef)) s0 with
 | none=>rw[ht] at hu;simp at hu
 | some t =>
   refine ⟨t,rfl,?_⟩
   rw[List.map_append,pB,hf] at ht
   simp only[Option.bind_some,List.map_cons,List.map_nil,fc] at ht
   cases hr:dG L cx k n R (es.getD j (.undef,.undef)) s with
   | none=>rw[hr] at ht;simp at ht
   | some t'=>rw[hr] at ht;exact ht

theorem C3 {cx:Cx} {F:Fence} (hFW:dh F) (hN:cS cx.P) (hC:bY cx.P cx.call) (hX:dL cx F) {L:bm} (hL:L.Ok) (hit:L.it<cx.nt)
 {k n:Nat} {es:List (AV×AV)} {s0:aq×aV} {R:aa} {fr':aq} {H':aa} (hlk:∀ d,ar R d=true) (hk0:bk s0.1 L.it=.ptr 0 k 0 0)
 (hall:∀ vs:List Nat,vs.Nodup→vs.length=es.length→(∀ j ∈ vs,j<es.length)→∃ s,fc L cx k n R (vs.map fun j=>es.getD j (.undef,.undef)) s0=some s∧L.last cx s.1 (s.2::R)=some (fr',H'))
 -- the base
 {p0:aw} {M0:Mu} {lb:aV} {Hb:aa} {w0:World} (hHb:Hb=lb::R) (hH0:aP p0 M0 Hb w0) (hn:al Hb=n) (hne:Hb≠[]) (hRo:ph F cx.ro M0) {n0 b clock:Nat} {ces:Array MapEntry} (hkb:Go.Eng.aS M0 Hb b) (hb0:w0.heap[b]?=some (.map ces clock)) (hborn:ju ces clock) (hsz:ces.size=es.length)
 (hrel:∀ j,(h:j<ces.size)→ai p0 M0 (es.getD j (.undef,.undef)).1 ces[j].key∧ai p0 M0 (es.getD j (.undef,.undef)).2 ces[j].val)
 -- where it begins
 {r:Nat} (hr0:w0.heap.size≤r) {p:aw} {M:Mu} {fr:aq} {l0:aV} {a:Act} {w:World} (hE:bP p0 M0 Hb w0 p M (l0::R) w) (hF:bJ p M cx.nt fr a) (hM:Marks n0 M (l0::R) w a.defers) (hx:(fr,l0)=s0) (hr:w.heap[r]?=some (.mapIter (some b) clock #[] clock))
 (ha:a.tmps.getD L.it Go.undef=.pointer (some ⟨r,0,none⟩)) {Q:Exit→Act→World→Prop} (hQ:∀ a' w',DC n0 p0 M0 Hb w0 cx.nt fr' H' a' w'→Q .normal a' w'):L.code.wpIn F 0 cx.P Q a w:=by
 have hbl:b<w0.heap.size:=(Array.getElem?_eq_some_iff.1 hb0).1
 have hnod:(ces.toList.map (·.born)).Nodup:=by
  refine List.pairwise_iff_getElem.2 fun i i' hi hi' hlt e=>?_
  simp only[List.length_map,Array.length_toList] at hi hi'
  have:=hborn.2 i i' hi hi' (by simpa using e)
  omega
 -- of the iterator's slot
 have slot:∀ {p:aw} {M:Mu} {fr:aq} {a:Act},bJ p M cx.nt fr a→bk fr L.it=.ptr 0 k 0 0→a.tmps.getD L.it Go.undef=.pointer (some ⟨r,0,none⟩)→∃ t,M 0 k 0=some (r,0,t):=by
  intro p M fr a hF hk he
  have:=hF.at_ L.it
  rw[hk,he] at this
  generalize hz:(Value.pointer (some ⟨r,0,none⟩))=z at this
  cases this
  rename_i b' o' t' hm
  simp only[Value.pointer.injEq,Option.some.injEq,Addr.mk.injEq] at hz
  obtain ⟨rfl,hz,_⟩:=hz
  obtain rfl:o'=0:=by omega
  exact ⟨t',hm⟩
 have slot':∀ {p:aw} {M:Mu} {fr:aq} {a:Act} {t:Nat},bJ p M cx.nt fr a→bk fr L.it=.ptr 0 k 0 0→M 0 k 0=some (r,0,t)→a.tmps.getD L.it Go.undef=.pointer (some ⟨r,0,none⟩):=by
  intro p M fr a t hF hk hm
  have:=hF.at_ L.it
  rw[hk] at this
  generalize a.tmps.getD L.it Go.undef=z at this
  cases this
  rename_i b' o' t' hm'
  rw[hm] at hm'
  simp only[nP] at hm'
  obtain ⟨rfl,rfl,_⟩:=hm'
  rfl
 refine wpIn_block (wpIn_loop (fun a w=>∃ p M fr l seen,bP p0 M0 Hb w0 p M (l::R) w∧bJ p M cx.nt fr a∧Marks n0 M (l::R) w a.defers∧(∃ vs:List Nat,vs.Nodup∧(∀ j ∈ vs,j<es.length)∧fc L cx k n R (vs.map fun j=>es.getD j (.undef,.undef)) s0=some (fr,l)∧∀ j,(h:j<ces.size)→(seen.contains (ces[j]).born=true↔j ∈ vs))∧w.heap[r]?=some (.mapIter (some b) clock seen clock) ∧
  a.tmps.getD L.it Go.undef=.pointer (some ⟨r,0,none⟩)) (fun _ w=>(leftOf ces (jC r w)).size) ?_ ?_)
 · refine ⟨p,M,fr,l0,#[],hE,hF,hM,⟨[],List.nodup_nil,?_,?_,?_⟩,hr,ha⟩
   · intro j hj;cases hj
   · rw[hx];rfl
   · intro j h
     constructor
     · intro hc;simp at hc
     · intro hc;cases hc
 rintro a w ⟨p,M,fr,l,seen,hE,hF,hM,⟨vs,hvn,hvl,hvf,hvs⟩,hr,ha⟩
 have hXk:bk fr L.it=.ptr 0 k 0 0:=El hk0 _ _ hvf
 obtain ⟨H,hHl⟩:∃ H,H=l::R:=⟨_,rfl⟩
 rw[← hHl] at hE hM
 have hseen:jC r w=seen:=by unfold jC;rw[hr]
 have hbw:w.heap[b]?=some (.map ces clock):=by rw[hE.stay.block b hbl hkb];exact hb0
 have hwant:∀ (o:Oper),o.guard=none→∀ y,Region.wanted o y=true:=fun o hg y=>by unfold Region.wanted;rw[hg]
 have hev:a.eval (.tmp L.it)=.pointer (some ⟨r,0,none⟩):=ha
 refine wpIn_seq (wpIn_region_list ?_)
 rw[hL.l1]
 unfold wpListIn
 rw[if_pos (hwant _ hL.g1 _)]
 rcases run_next_at (P:=cx.P) w L.no.type r b clock clock seen ces clock hr hbw (fun x hx=>by
  obtain ⟨i,hi,rfl⟩:=List.getElem_of_mem hx
  have:=hborn.1 i (by simpa using hi)
  simpa using this) (Nat.le_refl _) with ⟨hz,hrun⟩ | ⟨e,he,w1,hw1,hrun⟩
 · -- nothing is left
   refine kP hFW (by rw[hL.o1];intro c h;cases h) (cv:=.tuple #[.bool false]) (w':=w) (by simp only[execOp,hL.o1,hev];simp[Sem.run_bind,hrun,Result.andThen]) ?_
   have hin:∀ j,j<es.length→j ∈ vs:=fun j hjl=>by
    have hj:j<ces.size:=by rw[hsz];exact hjl
    refine (hvs j hj).1 (Classical.byContradiction fun hc=>?_)
    have hc':seen.contains (ces[j]).born=false:=by simpa using hc
    have:ces[j] ∈ leftOf ces seen:=by
     unfold leftOf
     rw[Array.mem_filter]
     exact ⟨Array.getElem_mem hj,by rw[hc'];rfl⟩
    have:=Array.size_pos_of_mem this
    omega
   obtain ⟨s,hs1,hl⟩:=hall vs hvn (xD hvn hvl hin) hvl
   rw[hvf] at hs1
   simp only[Option.some.injEq] at hs1
   rw[← hs1] at hl
   dsimp only at hl
   rw[← hHl] at hl
   unfold bm.last at hl
   rw[bX] at hl
   cases hro:dr cx.P cx.nt cx.call L.ops1 L.t1 (di cx.nt fr (some L.nx) (.tup [.bool false])) H with
   | none=>rw[hro] at hl;simp at hl
   | some q =>
     obtain ⟨frE,HE⟩:=q
     rw[hro] at hl
     dsimp only at hl
     split at hl
     · rename_i hb
       simp only[nP] at hl
       obtain ⟨rfl,rfl⟩:=hl
       have hput:=hF.put (some L.nx) (v:=.tup [.bool false]) (c:=.tuple #[.bool false]) (.tup rfl (fun j hj=>by
        obtain rfl:j=0:=by simpa using hj
        exact .bool _))
       rw[hL.d1]
       refine dH hFW hN hC _ _ _ _ _ hro p M _ w hput hE.rel (hE.ne hne) (fun a2 w2 ⟨p2,M2,hE2,hF2,hd2⟩=>?_)
       refine wpIn_seq ?_
       have hmo:=hF2.at_ L.mo
       rw[vW hb] at hmo
       have hc:a2.eval (.tmp L.mo)=.bool false:=by
        show a2.tmps.getD L.mo Go.undef=_
        generalize a2.tmps.getD L.mo Go.undef=z at hmo
        cases hmo;rfl
       refine wpIn_cond_false hc (wpIn_exit ?_)
       show Exit.inBlock L.out Q (.exit L.out) a2 w2
       simp only[Exit.inBlock,if_true]
       refine hQ a2 w2 ⟨p2,M2,hE.trans hE2,hF2,?_⟩
       rw[hd2,put_defers]
       exact hM.qi hE2
     · simp at hl
 · -- an entry comes
   have hemem:e ∈ ces.toList:=by
    unfold leftOf at he
    simp at he
    simpa using he.1
   obtain ⟨j,hj,hje⟩:=List.getElem_of_mem hemem
   have hj':j<ces.size:=by simpa using hj
   have hje':ces[j]=e:=by simpa using hje
   have hjl:j<es.length:=by rw[← hsz];exact hj'
   have hjv:j ∉ vs:=fun hc=>by
    have h1:=(hvs j hj').2 hc
    rw[hje'] at h1
    unfold leftOf at he
    simp only[Array.toList_filter,List.mem_filter,Bool.not_eq_true'] at he
    rw[h1] at he
    exact absurd he.2 (by decide)
   obtain ⟨⟨frN,lN⟩,hfN,hstep⟩:=CS (fun ws h1 h2 h3=>by obtain ⟨s,h4,_⟩:=hall ws h1 h2 h3;exact ⟨s,h4⟩) hvn hvl hvf hjl hjv
   obtain ⟨RN,hround⟩:=fM hstep
   dsimp only at hround
   have hround':=hround
   rw[← hHl] at hround'
   unfold bm.round at hround'
   simp only[bX,cZ] at hround'
   obtain ⟨hkey,hval⟩:=hrel j hj'
   rw[hje'] at hkey hval
   have hE1:bP p0 M0 Hb w0 p M H w1∧Marks n0 M H w1 a.defers∧w1.heap[r]?=some (.mapIter (some b) clock seen clock):=by
    rcases hw1 with rfl | rfl
    · exact ⟨hE,hM,hr⟩
    · exact ⟨hE.drew,hM.drew,hr⟩
   obtain ⟨hE1,hM1,hr1⟩:=hE1
   have hE2:=hE1.Fg hr1 hr0 (.mapIter (some b) clock (seen.push e.born) clock)
   have hM2:=hM1.Fg hr1 (.mapIter (some b) clock (seen.push e.born) clock)
   have hr2:(setBlock w1 r (.mapIter (some b) clock (seen.push e.born) clock)).heap[r]?=some (.mapIter (some b) clock (seen.push e.born) clock):=by
    have hlt:r<w1.heap.size:=(Array.getElem?_eq_some_iff.1 hr1).1
    simp[setBlock,hlt]
   generalize setBlock w1 r (.mapIter (some b) clock (seen.push e.born) clock)=w2 at hrun hE2 hM2 hr2
   refine kP hFW (by rw[hL.o1];intro c h;cases h) (cv:=.tuple #[.bool true,e.key,e.val]) (w':=w2) (by simp only[execOp,hL.o1,hev];simp[Sem.run_bind,hrun,Result.andThen]) ?_
   rw[hL.d1]
   have hput:=hF.put (some L.nx) (v:=.tup [.bool true,(es.getD j (.undef,.undef)).1,(es.getD j (.undef,.undef)).2]) (c:=.tuple #[.bool true,e.key,e.val]) (.tup rfl (fun i hi=>by
    match i,hi with
    | 0,_=>exact .bool _
    | 1,_=>exact hkey.mono hE2.pst hE2.mu
    | 2,_=>exact hval.mono hE2.pst hE2.mu))
   cases hro:dr cx.P cx.nt cx.call L.ops1 L.t1 (di cx.nt fr (some L.nx) (.tup [.bool true,(es.getD j (.undef,.undef)).1,(es.getD j (.undef,.undef)).2])) H with
   | none=>rw[hro] at hround';simp at hround'
   | some q =>
     obtain ⟨frA,HA⟩:=q
     rw[hro] at hround'
     dsimp only at hround'
     split at hround'
     · rename_i hcA
       simp only[Bool.and_eq_true] at hcA
       obtain ⟨hcA1,hcA2⟩:=hcA
       obtain ⟨t,hmk⟩:=slot hF hXk ha
       refine dH hFW hN hC _ _ _ _ _ hro p M _ w2 hput hE2.rel (hE2.ne hne) (fun a3 w3 ⟨p3,M3,hE3,hF3,hd3⟩=>?_)
       refine wpIn_seq ?_
       have hmo:=hF3.at_ L.mo
       rw[vW hcA1] at hmo
       have hc:a3.eval (.tmp L.mo)=.bool true:=by
        show a3.tmps.getD L.mo Go.undef=_
        generalize a3.tmps.getD L.mo Go.undef=z at hmo
        cases hmo;rfl
       refine wpIn_cond_true hc (wpIn_skip ?_)
       show Code.wpIn F 0 cx.P _ _ a3 w3
       have hmk3:=hE3.mu _ _ _ _ hmk
       have ha3:=slot' hF3 (eO hcA2) hmk3
       have hr3:w3.heap[r]?=some (.mapIter (some b) clock (seen.push e.born) clock):=by
        rw[hE3.stay.block r (Array.getElem?_eq_some_iff.1 hr2).1 (fun d i v B hg hB _ o t=>lP hE2.rel hr2 hg hB o t)];exact hr2
       have hE03:=hE2.trans hE3
       have hbw3:w3.heap[b]?=some (.map ces clock):=by rw[hE03.stay.block b hbl hkb];exact hb0
       have hM3:Marks n0 M3 HA w3 a3.defers:=by rw[hd3,put_defers];exact hM2.qi hE3
       refine wpIn_block (wpIn_seq (wpIn_region_list ?_))
       rw[hL.l2]
       unfold wpListIn
       rw[if_pos (hwant _ hL.g2 _)]
       have hrunE:=run_entry_at (P:=cx.P) w3 r b clock seen ces clock e hr3 hbw3 hemem hnod
       have hev3:a3.eval (.tmp L.it)=.pointer (some ⟨r,0,none⟩):=ha3
       refine kP hFW (by rw[hL.o2];intro c h;cases h) (cv:=.tuple #[e.key,e.val]) (w':=w3) (by simp only[execOp,hL.o2,hev3];simp[Sem.run_bind,hrunE,Result.andThen]) ?_
       rw[hL.d2]
       have hput3:=hF3.put (some L.en) (v:=.tup [(es.getD j (.undef,.undef)).1,(es.getD j (.undef,.undef)).2]) (c:=.tuple #[e.key,e.val]) (.tup rfl (fun i hi=>by
        match i,hi with
        | 0,_=>exact hkey.mono hE03.pst hE03.mu
        | 1,_=>exact hval.mono hE03.pst hE03.mu))
       cases hro2:dr cx.P cx.nt cx.call L.ops2 L.t2 (di cx.nt frA (some L.en) (.tup [(es.getD j (.undef,.undef)).1,(es.getD j (.undef,.undef)).2])) HA with
       | none=>rw[hro2] at hround';simp at hround'
       | some q2 =>
         obtain ⟨frB,HB⟩:=q2
         rw[hro2] at hround'
         dsimp only at hround'
         refine dH hFW hN hC _ _ _ _ _ hro2 p3 M3 _ w3 hput3 hE3.rel (hE03.ne hne) (fun a4 w4 ⟨p4,M4,hE4,hF4,hd4⟩=>?_)
         show Code.wpIn F 0 cx.P _ _ a4 w4
         have hE04:=hE03.trans hE4
         have hM4:Marks n0 M4 HB w4 a4.defers:=by rw[hd4,put_defers];exact hM3.qi hE4
         split at hround'
         · rename_i frC HC hex
           split at hround'
           · rename_i hptC
             simp only[nP] at hround'
             obtain ⟨rfl,hcut⟩:=hround'
             refine b6 hFW hN hC hX _ _ _ _ _ _ hex n0 p4 M4 a4 w4 _ hF4 hE4.rel (hE04.ne hne) (hRo.mono hE04.mu) hM4 (fun a5 w5 ⟨p5,M5,hE5,hF5,hM5⟩=>?_)
             show Exit.inBlock L.nxt _ .normal a5 w5
             simp only[Exit.inBlock,Exit.then]
             have hE05:=hE04.trans hE5
             have hE35:=hE4.trans hE5
             have hF5':=hF5.kill L.km
             have hmk5:=hE35.mu _ _ _ _ hmk3
             have ha5:=slot' hF5' (eO hptC) hmk5
             have hr5:w5.heap[r]?=some (.mapIter (some b) clock (seen.push e.born) clock):=by
              rw[hE35.stay.block r (Array.getElem?_eq_some_iff.1 hr3).1 (fun d i v B hg hB _ o t=>lP hE3.rel hr3 hg hB o t)];exact hr3
             obtain ⟨M6,hE6,hF6,hM6⟩:=qY hE05 hF5' hM5 (fun d i v t hm=>(hH0.dom d i v t hm).1)
             rw[hn,hcut] at hE6 hM6
             have hRN:RN=R:=by
              have hdR:∀ d,ar Hb (d+1)=true:=fun d=>by rw[hHb];exact hlk d
              refine jU _ _ (by have:=hE6.len;rw[hHb] at this;simpa using this) (fun d i=>?_) (fun d=>?_) (fun d=>?_)
              · have:=hE6.same (d+1) i (by omega) (hdR d);rw[hHb] at this;exact this
              · have:=hE6.next (d+1) (by omega) (hdR d);rw[hHb] at this;exact this
              · have:=hE6.lock (d+1);rw[hHb] at this;exact this
             rw[hRN] at hE6 hM6
             refine ⟨⟨p5,M6,_,_,seen.push e.born,hE6,hF6,hM6,⟨vs++[j],?_,?_,hfN,fun i hi=>?_⟩,hr5,ha5⟩,?_⟩
             · exact List.nodup_append.2 ⟨hvn,by simp,fun x hx y hy e=>by
                rw[List.mem_singleton] at hy
                subst hy;subst e;exact hjv hx⟩
             · intro i hi
               rcases List.mem_append.1 hi with h | h
               · exact hvl i h
               · rw[List.mem_singleton] at h;rw[h];exact hjl
             · rw[Array.contains_push,Bool.or_eq_true,hvs i hi,List.mem_append,List.mem_singleton,beq_iff_eq]
               constructor
               · rintro (h | h)
                 · exact .inl h
                 · exact .inr (hborn.2 i j hi hj' (by rw[hje'];first | exact h | exact h.symm))
               · rintro (h | h)
                 · exact .inl h
                 · subst h;rw[hje'];exact .inr rfl
             · have hs5:jC r w5=seen.push e.born:=by unfold jC;rw[hr5]
               rw[hs5,hseen]
               exact uH he
           · simp at hround'
         · simp at hround'
     · simp at hround'


end Go.Eng
end
section
namespace Go.Eng

def wZ (cx:Cx) (L:bm) (d k:Nat) (R:aa) (s0:aq×aV) (q:KK) (h:List Int→Bool) (g:List Int→Int) (c:Nat) (y:aq×aV):Prop :=
 bk s0.1 L.it=.ptr 0 k 0 0∧∀ es,vr q es h g c→∀ vs:List Nat,vs.Nodup→vs.length=es.length→(∀ j ∈ vs,j<es.length) →
  ∃ s,fc L cx k (k+1) R (vs.map fun j=>(es.map fun e=>(fq (d+1) e.1,fq (d+1) e.2)).getD j (.undef,.undef)) s0=some s∧L.last cx s.1 (s.2::R)=some (y.1,y.2::R)
noncomputable def j5 (cx:Cx) (S:cw) (L:bm) (fr:aq) (H:aa):Option (aq×aa) :=
 match dj cx.P cx.nt cx.call S.ops0 S.pre fr H with
 | some (fr1,l1::r1)=>match bk fr1 S.m with
   | .map (d+1) i=>match ao (l1::r1) (d+1) i with
     | (0,.fmap q h g c) =>
       if l1.lock then none else
       @dite _ (∃ y,wZ cx L d (al (l1::r1)) (av r1) (di cx.nt fr1 (some L.it) (.ptr 0 (al (l1::r1)) 0 0),{ l1 with bs:=l1.bs++[(0,.dead)] }) q h g c y) (Classical.propDecidable _)
        (fun hx=>some ((Classical.choose hx).1,(Classical.choose hx).2::r1)) (fun _=>none)
     | _=>none
   | _=>none
 | _=>none

theorem yM {cx:Cx} {F:Fence} (hFW:dh F) (hN:cS cx.P) (hC:bY cx.P cx.call) (hX:dL cx F) {S:cw} {L:bm} (hS:S.Ok cx.P L) (hL:L.Ok) {fr fr':aq} {H H':aa} (h:j5 cx S L fr H=some (fr',H')) :
 dm cx.P F cx.ro cx.nt (S.code L) fr H .normal fr' H':=by
 intro n0 p M a w Q hF hH hne hR hM hQ
 unfold j5 at h
 rw[bX] at h
 split at h
 case h_2=>simp at h
 rename_i fr1 l1 r1 hro
 split at h
 case h_2=>simp at h
 rename_i d i hmap
 split at h
 case h_2=>simp at h
 rename_i q hh gg cc hg
 split at h
 · simp at h
 rename_i hl0
 simp only[Bool.not_eq_true] at hl0
 split at h
 case isFalse=>simp at h
 rename_i hx
 obtain ⟨hk0,hends⟩:=Classical.choose_spec hx
 generalize Classical.choose hx=Y at h hends
 obtain ⟨frE,lE⟩:=Y
 simp only[nP] at h
 obtain ⟨rfl,rfl⟩:=h
 refine wpIn_seq (wpIn_region_list ?_)
 rw[hS.l0]
 refine gZ hFW hN hC _ _ _ _ _ hro p M a w hF hH hne (fun a1 w1 ⟨p1,M1,hE1,hF1,hd1⟩=>?_)
 unfold wpListIn
 rw[if_pos (by unfold Region.wanted;rw[hS.g0])]
 -- the map
 have hvm:=hF1.at_ S.m
 rw[hmap] at hvm
 obtain ⟨b,o,tt,hmu,hev⟩:∃ b o t,M1 (d+1) i 0=some (b,o,t)∧a1.tmps.getD S.m Go.undef=.map (some b):=by
  generalize a1.tmps.getD S.m Go.undef=z at hvm
  cases hvm
  rename_i b o t hm
  exact ⟨b,o,t,hm,rfl⟩
 obtain ⟨es,hEs,ces,clock,hb,hsz,hborn,hrel⟩:=oo hE1.rel hg hmu
 have hev':a1.eval (.tmp S.m)=.map (some b):=hev
 obtain ⟨kt,et,hu⟩:=hS.t0
 have hrun:=_root_.Go.run_range_map (P:=cx.P) w1 S.ty kt et b ces clock hu hb
 refine kP hFW (by rw[hS.o0];intro c h;cases h) (cv:=.pointer (some ⟨w1.heap.size,0,none⟩)) (w':=w1.alloc (.mapIter (some b) clock #[] clock)) (by simp only[execOp,hS.o0,hev'];simp[Sem.run_bind,hrun,Result.andThen]) ?_
 unfold wpListIn
 rw[hS.d0]
 -- the base of the loop
 obtain ⟨R,hRd⟩:∃ R,R=av r1:=⟨_,rfl⟩
 obtain ⟨lb,hlbd⟩:∃ lb,lb=({ l1 with bs:=l1.bs++[(0,.dead)] }:aV):=⟨_,rfl⟩
 rw[← hlbd,← hRd] at hends
 have hH3:aP p1 M1 (bF (l1::r1)) w1:=hE1.rel.same (cq _) (bU _)
 have hne3:bF (l1::r1)≠[]:=by simp[bF]
 have hEp:=bP.pad hH3 hne3 1 (cU.refl _ _)
 have hpad:kF (bF (l1::r1)) 1=lb::R:=by rw[hlbd,hRd];rfl
 rw[hpad] at hEp
 have hRl:∀ d,ar R d=true:=fun d=>by rw[hRd];exact bh _ _
 have hnx:al (bF (l1::r1))=al (l1::r1):=by
  rw[← ay,bU,ay]
 have hnb:al (lb::R)=al (l1::r1)+1:=by
  rw[← hpad,← ay,iB _ hne3,if_pos rfl,hnx]
 have hdead:(ao (lb::R) 0 (al (l1::r1))).2=.dead:=by
  rw[← hpad,eF]
  exact Classical.byContradiction fun hn=>by
   have:=iq hn
   rw[bU,ay] at this
   omega
 have hlb:ar (lb::R) 0=false:=by rw[hlbd];exact hl0
 have hno:∀ v,M1 0 (al (l1::r1)) v=none:=fun v=>by
  cases hx:M1 0 (al (l1::r1)) v with
  | none=>rfl
  | some u =>
    have:=(hE1.rel.dom _ _ _ _ hx).1
    rw[ay] at this
    omega
 have hEn:=bP.name hEp.rel hdead (by rw[ay,hnb];omega) hno hlb (.mapIter (some b) clock #[] clock)
 have hkb:Go.Eng.aS M1 (lb::R) b:=by
  intro d' i' v' B' hg' hB' hl' o' t' hm'
  cases d' with
  | succ d' =>
    rw[show ar (lb::R) (d'+1)=ar R d' from rfl,hRl] at hl';cases hl'
  | zero =>
    rw[← hpad,eF,cq] at hg'
    have:=(hE1.rel.apart 0 i' v' B' (d+1) i 0 (.fmap q hh gg cc) b o' t' o tt hg' hB' hg (by simp) hm' hmu).1
    omega
 have hF2:=(hF1.mono hEn.pst hEn.mu).put (some L.it) (v:=.ptr 0 (al (l1::r1)) 0 0) (c:=.pointer (some ⟨w1.heap.size,0,none⟩)) (.ptr (o:=0) (t:=0) (by simp[aY]))
 have hM2:Marks n0 (aY M1 0 (al (l1::r1)) 0 (w1.heap.size,0,0)) (lb::R) (w1.alloc (.mapIter (some b) clock #[] clock)) (a1.put (some L.it) (.pointer (some ⟨w1.heap.size,0,none⟩))).defers:=by
  rw[put_defers,hd1]
  have m1:=hM.qi hE1
  have m3:Marks n0 M1 (bF (l1::r1)) w1 a.defers:=by
   obtain ⟨rs,g1,g2,g0,g3⟩:=m1
   refine ⟨rs,g1,g2,g0,fun q hq=>⟨(g3 q hq).1,fun d' i' v' B' hg' hB' hl' o' t'=>?_,(g3 q hq).2.2⟩⟩
   rw[cq] at hg'
   cases d' with
   | zero=>exact (g3 q hq).2.1 0 i' v' B' hg' hB' hl0 o' t'
   | succ d' =>
     have:ar (av r1) d'=true:=bh _ _
     have h7:ar (bF (l1::r1)) (d'+1)=ar (av r1) d':=rfl
     rw[h7,this] at hl';cases hl'
  exact (m3.qi hEp).qi hEn
 have hR2:ph F cx.ro M1:=hR.mono hE1.mu
 have hkvs:(es.map fun e=>(fq (d+1) e.1,fq (d+1) e.2)).length=es.length:=by simp
 have hit:L.it<cx.nt:=by
  refine Nat.lt_of_not_le fun hle=>?_
  have h8:=hF2.at_ L.it
  rw[hk0] at h8
  have:(a1.put (some L.it) (.pointer (some ⟨w1.heap.size,0,none⟩))).tmps.getD L.it Go.undef=Go.undef:=by
   have hs:=hF2.size
   rw[Array.getD_eq_getD_getElem?,Array.getElem?_eq_none (by omega)];rfl
  rw[this] at h8
  cases h8
 have hslot:(a1.put (some L.it) (.pointer (some ⟨w1.heap.size,0,none⟩))).tmps.getD L.it Go.undef=.pointer (some ⟨w1.heap.size,0,none⟩):=by
  have hs:=hF1.size
  simp[Act.put,hs,hit]
 refine C3 hFW hN hC hX hL hit (k:=al (l1::r1)) (n:=al (l1::r1)+1) (es:=es.map fun e=>(fq (d+1) e.1,fq (d+1) e.2)) (s0:=(di cx.nt fr1 (some L.it) (.ptr 0 (al (l1::r1)) 0 0),lb)) (R:=R) hRl hk0 (fun vs v1 v2 v3=>hends es hEs vs v1 (by rw[v2,hkvs]) (fun j hj=>by rw[← hkvs];exact v3 j hj)) rfl hEp.rel hnb (by simp) hR2 hkb hb hborn (by rw[hkvs];exact hsz) ?_ (Nat.le_refl _) hEn hF2 hM2 rfl (World.alloc_heap_new _ _) hslot (fun a' w' hnow=>?_) (fr':=frE) (H':=lE::R)
 · intro j hj
   have hj2:j<es.length:=by rw[← hsz];exact hj
   have:=hrel j hj
   have e1:(es.map fun e=>(fq (d+1) e.1,fq (d+1) e.2)).getD j (.undef,.undef)=(fq (d+1) (es.getD j (.undef,.undef)).1,fq (d+1) (es.getD j (.undef,.undef)).2):=by
    simp[List.getD_eq_getElem?_getD,List.getElem?_eq_getElem hj2]
   rw[e1]
   exact ⟨this.1.up,this.2.up⟩
 · obtain ⟨p',M',e1,e2,e3⟩:=hnow
   have e4:bP p1 M1 (bF (l1::r1)) w1 p' M' (lE::R) w':=hEp.trans e1
   rw[hRd] at e4 e3
   have e5:=bP.unlock hE1.rel hl0 e4
   have e7:=hE1.trans e5
   refine hQ a' w' ⟨p',M',e7,e2,?_⟩
   obtain ⟨rs,g1,g2,g0,g3⟩:=e3
   refine ⟨rs,g1,g2,g0,fun q hq=>⟨(g3 q hq).1,?_,(g3 q hq).2.2⟩⟩
   -- a mark is kept: it is no block that is known
   intro d' i' v' B' hg' hB' hl' o' t' hm'
   obtain ⟨b2,o2,t2,k1,k2,_⟩:=e7.rel.live d' i' v' B' hg' hB'
   rw[hm'] at k1
   simp only[nP] at k1
   obtain ⟨rfl,_,_⟩:=k1
   have hq1:=(g3 q hq).1
   cases B' with
   | dead=>exact hB' rfl
   | row r=>obtain ⟨_,_,e,_⟩:=k2;rw[hq1] at e;simp at e
   | map es=>obtain ⟨_,_,e,_⟩:=k2;rw[hq1] at e;simp at e
   | fmap kq f g c=>obtain ⟨_,_,_,_,e,_⟩:=k2;rw[hq1] at e;simp at e
   | loop l=>obtain ⟨_,e,_⟩:=k2;rw[hq1] at e;simp at e
noncomputable def jY (cx:Cx) (S:cw) (L:bm) (fr:aq) (H:aa):Option (aq×aa) :=
 match jZ cx S L fr H with
 | some x=>some x
 | none=>j5 cx S L fr H
theorem tQ {cx:Cx} {F:Fence} (hFW:dh F) (hN:cS cx.P) (hC:bY cx.P cx.call) (hX:dL cx F) {S:cw} {L:bm} (hS:S.Ok cx.P L) (hL:L.Ok) {fr fr':aq} {H H':aa} (h:jY cx S L fr H=some (fr',H')) :
 dm cx.P F cx.ro cx.nt (S.code L) fr H .normal fr' H':=by
 unfold jY at h
 split at h
 · rename_i x e
   simp only[Option.some.injEq] at h
   subst h
   exact mX hFW hN hC hX hS hL e
 · exact yM hFW hN hC hX hS hL h
noncomputable def fp (cx:Cx) (S:cw) (L:bm) (suf:Code):List Code→aq→aa→Option (Ex×aq×aa)
 | [],fr,H=>match jY cx S L fr H with
   | some (fr,H)=>df cx suf fr H
   | none=>none
 | c::r,fr,H=>match df cx c fr H with
   | some (.normal,fr,H)=>fp cx S L suf r fr H
   | x=>x

theorem sF {cx:Cx} {F:Fence} (hFW:dh F) (hN:cS cx.P) (hC:bY cx.P cx.call) (hX:dL cx F) {S:cw} {L:bm} {suf:Code} (hS:S.Ok cx.P L) (hL:L.Ok):∀ (pre:List Code) (fr:aq) (H:aa) (e:Ex) (fr':aq) (H':aa),
 fp cx S L suf pre fr H=some (e,fr',H')→dm cx.P F cx.ro cx.nt (assemble pre (S.code L) suf) fr H e fr' H'
 | [],fr,H,e,fr',H',h=>by
   simp only[fp] at h
   cases hr:jY cx S L fr H with
   | none=>rw[hr] at h;simp at h
   | some q =>
     obtain ⟨fr1,H1⟩:=q
     rw[hr] at h
     dsimp only at h
     rw[cZ] at h
     exact n8 (tQ hFW hN hC hX hS hL hr) (b6 hFW hN hC hX _ _ _ _ _ _ h)
 | c :: r,fr,H,e,fr',H',h=>by
   simp only[fp] at h
   rw[cZ] at h
   cases hx:exec cx c fr H with
   | none=>rw[hx] at h;simp at h
   | some q =>
     obtain ⟨e1,fr1,H1⟩:=q
     rw[hx] at h
     have h1:=b6 hFW hN hC hX _ _ _ _ _ _ hx
     cases e1 with
     | normal=>exact n8 h1 (sF hFW hN hC hX hS hL r fr1 H1 e fr' H' h)
     | _ =>
       simp only[nP] at h
       obtain ⟨rfl,rfl,rfl⟩:=h
       exact n9 (by simp) h1

noncomputable def sJ (P:Program) (KT:FuncId→Nat→Nat) (fu:Nat) (r:nR) (call:aJ) (args:List AV) (H:aa):Option (AV×aa) :=
 match P.funcs[r.f]? with
 | none=>none
 | some fn=>if Nat.ble args.length fn.ntmps then
   match fp ⟨P,call,fu,r.f,fn.ntmps,KT r.f,none⟩ r.S r.L r.suf r.pre (fU 0 args) (⟨false,[]⟩::H) with
   | some (e,fr,l::H')=>(match e with
     | .normal | .ret=>match gE P fr (l::H') fn.results.toList with
       | some vs=>some (dw l.bs 5 (one vs),H')
       | none=>none
     | _=>none)
   | _=>none
   else none

theorem Dh {P:Program} (hN:cS P) (hD:kf P) {r:nR} (hr:r.Ok P) (KT:FuncId→Nat→Nat) (fu:Nat) {call:aJ} (hC:bY P call) {args:List AV} {H:aa} {v:AV} {H':aa} (h:sJ P KT fu r call args H=some (v,H'))
 {p:aw} {M:Mu} {w:World} {cargs:Array Value} (hH:aP p M H w) (hA:iF p M args cargs):(∃ fn,P.funcs[r.f]?=some fn∧fn.body.isNone=false)∧CallsIn Fence.wide 0 P r.f cargs w (pg p M H w v H'):=by
 obtain ⟨⟨fn,hf,hb⟩,hS,hL⟩:=hr
 unfold sJ at h
 rw[hf] at h
 dsimp only at h
 split at h
 · rename_i hle
   split at h
   · rename_i e fr l H1 he
     have hcode:=sF (cx:=⟨P,call,fu,r.f,fn.ntmps,KT r.f,none⟩) dh.wide hN hC (more hN hD hC _ _ rfl rfl dh.wide) hS hL _ _ _ _ _ _ he
     split at h
     · cases hv:gE P fr (l::H1) fn.results.toList with
       | none=>rw[hv] at h;simp at h
       | some vs =>
         rw[hv] at h
         simp only[nP] at h
         obtain ⟨rfl,rfl⟩:=h
         exact ⟨⟨fn,hf,by rw[hb];rfl⟩,jP hf hb (by simpa using hle) (.inl rfl) hv hcode hH hA⟩
     · cases hv:gE P fr (l::H1) fn.results.toList with
       | none=>rw[hv] at h;simp at h
       | some vs =>
         rw[hv] at h
         simp only[nP] at h
         obtain ⟨rfl,rfl⟩:=h
         exact ⟨⟨fn,hf,by rw[hb];rfl⟩,jP hf hb (by simpa using hle) (.inr rfl) hv hcode hH hA⟩
     · simp at h
   · simp at h
 · simp at h
end Go.Eng
end
section
namespace Go.Eng
open Go.ChangeShapes Go.RowKit

theorem tP {H:Type} {enc:TypeId×Value→H} {P:Program} {f:Func} {s:ChangeSpec} {apart fresh handsOn again:Bool} {W W':World} {args:Array Value} {v:Value} {ds gs:List (DataW H)} {before pa pv:List MemPlace}
 (hW:DataW.Whole enc P f.params.toList s.vars apart W args.toList ds gs before) (hb:Below W.heap.size W W')
 (hres:∀ (b:Nat) (sp:Nat→Bool) (hd:Bool),DataW.TrodAll enc P W' b sp hd f.resultTypes.toList (v.resultList f.resultTypes.size) (s.fn H (ds++gs)).results [])
 (hargs:∀ sp:Nat→Bool,(∀ p ∈ before,sp p.block=true)→DataW.TrodAll enc P W' 0 sp true f.params.toList args.toList (s.fn H (ds++gs)).args pa)
 (hvars:∀ sp:Nat→Bool,(∀ p ∈ before,sp p.block=true)→DataW.TrodVars enc P W' sp s.vars (s.fn H (ds++gs)).vars pv) (hps:before=pa++pv)
 (hok:∀ (j:Nat) (t:TypeId) (r:Value),f.resultTypes[j]?=some t→(v.resultList f.resultTypes.size)[j]?=some r→Value.okWide P W' .any 0 t r) :
 s.post enc P f apart fresh handsOn again W args v W':=by
 have old:∀ p ∈ before,p.block<W.heap.size:=fun p hp=>hW.lt p hp
 have hz:=hW
 obtain ⟨_,_,_,_,_,hz,hn⟩:=hz
 refine ⟨ds,gs,before,[],pa,pv,hW,hres _ _ _,hargs _ (fun p hp=>by simpa using old p hp),hvars _ (fun p hp=>by simpa using old p hp),hb.frame _,fun _=>⟨hok,_,_,[]++pa++pv,⟨[]++pa,pv,trodAll_append (hargs _ (fun _ _=>rfl)) (hres _ _ _),hvars _ (fun _ _=>rfl),rfl,?_,?_⟩,?_⟩⟩
 · intro b off hp
   have hp':MemPlace.cell b off ∈ before:=by rw[hps];simpa using hp
   rw[hb.frozen (old _ hp')]
   exact hz b off hp'
 · intro ha
   have:=hn ha
   rw[hps] at this
   simpa using this
 · intro p hp _
   rw[hps]
   simpa using hp

end Go.Eng
end
section
namespace Go.Eng
open Go.ChangeShapes

def Pw (w:World):aw:=fun b o=>w.cell? ⟨b,o,none⟩
theorem aP.all (w:World):aP (Pw w) Mu.no [⟨true,[]⟩] w where
 pers:=fun b o v h=>h
 live:=fun d i v B hg hB=>by
  cases d<;>simp[ao,an] at hg<;>exact absurd hg.2.symm hB
 apart:=fun d i v B d' i' v' B' b o t o' t' hg hB hg' hB' hm hm'=>by cases hm
 dom:=fun d i v t hm=>by cases hm

theorem CC {P:Program} {call:aJ} (hC:bY P call) {f:FuncId} {args:List AV} {x:Bool} {H':aa} (h:call (.fn f) args [⟨true,[]⟩]=some (.bool x,H')) {cargs:Array Value} {w:World} (hA:iF (Pw w) Mu.no args cargs) :
 Calls P f cargs w (fun e w'=>e=.returned (.bool x)∧Go.RowKit.Below w.heap.size w w'):=by
 have:=(hC (.fn f) args _ (.bool x) H' h (by simp) _ _ w cargs (aP.all w) hA).2
 refine (callsIn_wide.1 this).mono ?_
 rintro e w' ⟨cv,rfl,_,p',M',hE,hv⟩
 cases hv
 exact ⟨rfl,(hE.stay.weaken (fun b _ _ d i v B _ _ _ o t hm=>by cases hm)).below⟩

def DB (k:IntKind) (P:Program) (t:TypeId) (n:Nat):Prop:=∀ (H:Type) (enc:TypeId×Value→H) (w:World) (base:Nat) (sp:Nat→Bool) (held:Bool) (fuel:Nat) (cs:List Value) (x:DataW H×List MemPlace),
 DataW.trod enc P w base sp held fuel t cs=some x→cs.length=n∧∀ j,j<n→∃ z:Int,cs[j]?=some (.int k z)∧(Lit.int k z).wf=true
abbrev Hz (P:Program) (t:TypeId) (n:Nat):Prop:=DB .i64 P t n
theorem Ei {P:Program} {t:TypeId} {k:IntKind} (ht:P.underlying t=some (.int k)):DB k P t 1:=by
 intro H enc w base sp held fuel cs x h
 obtain ⟨n,rfl,_,hw⟩:=DataW.trod_int ht h
 refine ⟨rfl,fun j hj=>?_⟩
 obtain rfl:j=0:=by omega
 exact ⟨n,rfl,hw⟩
theorem rJ {w:World} {a:Addr}:∀ (l:List Nat) (cs:List Value),(l.mapM fun i=>w.cell? (a.add i))=some cs→∀ (j i:Nat),l[j]?=some i→∃ v,cs[j]?=some v∧w.cell? (a.add i)=some v
 | [],cs,h,j,i,hi=>by simp at hi
 | x::l,cs,h,j,i,hi=>by
   simp only[List.mapM_cons,Option.bind_eq_bind,Option.bind_eq_some_iff,Option.pure_def,Option.some.injEq] at h
   obtain ⟨v,hv,r,hr,rfl⟩:=h
   cases j with
   | zero=>simp at hi;subst hi;exact ⟨v,rfl,hv⟩
   | succ j=>exact rJ l r hr j i (by simpa using hi)

theorem Aw {P:Program} {k:IntKind} {t e:TypeId} {n:Nat} (ht:P.underlying t=some (.slice e)) (he:DB k P e n) (hn:0<n) (hc:P.cellsOf e=n) {H:Type} {enc:TypeId×Value→H} {w:World} {base:Nat} {sp:Nat→Bool} {held:Bool} {fuel:Nat} {v:Value} {x:DataW H×List MemPlace}
 (hspot:∀ a l c,v=.slice (some a) l c→a.spot=none) (h:DataW.trod enc P w base sp held fuel t [v]=some x) :
 (v=.slice none 0 0)∨∃ (zs:Nat→Int) (len:Nat),ai (Pw w) Mu.no (.slcT none (.F (fun j=>.int k (zs j)) (len*n)) n len false) v∧∀ j,j<len*n→(Lit.int k (zs j)).wf=true:=by
 rcases DataW.trod_slice ht h with ⟨h0,_⟩ | ⟨a,len,cap,elems,rest,m,_,hcs,_,_,hl,_,hlen,hel,_,_⟩
 · left;simpa using h0
 · right
   simp only[List.cons.injEq,and_true] at hcs
   have hsp:=hspot a len cap hcs
   have cell:∀ j,j<len*n→∃ z:Int,w.cell? ⟨a.block,a.off+j,none⟩=some (.int k z)∧(Lit.int k z).wf=true:=by
    intro j hj
    have hi:j / n<len:=by rw[Nat.div_lt_iff_lt_mul hn];exact hj
    have:=hel (j / n) hi
    have hex:elems[j / n]?≠none:=by simp;omega
    rw[← this] at hex
    cases hcl:w.cells? base (a.add (j / n*P.cellsOf e)) (P.cellsOf e) with
    | none=>rw[hcl] at hex;simp at hex
    | some cs =>
      rw[hcl] at hex
      cases hy:DataW.trod enc P w base sp held m e cs with
      | none=>simp[hy] at hex
      | some y =>
        obtain ⟨k0,k1⟩:=he _ _ _ _ _ _ _ _ _ hy
        obtain ⟨z,hz,hw⟩:=k1 (j % n) (Nat.mod_lt _ hn)
        unfold World.cells? at hcl
        split at hcl
        · obtain ⟨u,hu,hcu⟩:=rJ _ _ hcl (j % n) (j % n) (by rw[hc];simp[Nat.mod_lt _ hn])
          rw[hz] at hu
          have hu:=Option.some.inj hu
          subst hu
          refine ⟨z,?_,hw⟩
          rw[hc] at hcu
          have e1:(a.add (j / n*n)).add (j % n)=⟨a.block,a.off+j,none⟩:=by
           have hd:=Nat.div_add_mod j n
           have hd2:j / n*n+j % n=j:=by rw[Nat.mul_comm];exact hd
           cases a
           simp only at hsp
           subst hsp
           have ad:∀ (b o i:Nat),Addr.add ⟨b,o,none⟩ i=⟨b,o+i,none⟩:=fun b o i=>by
            unfold Addr.add
            split
            · rename_i h0;subst h0;rfl
            · rfl
           rw[ad,ad,Nat.add_assoc,hd2]
          rw[← e1];exact hcu
        · simp at hcl
   obtain ⟨zs,hzs⟩:∃ zs:Nat→Int,∀ j,j<len*n→w.cell? ⟨a.block,a.off+j,none⟩=some (.int k (zs j))∧(Lit.int k (zs j)).wf=true :=
    ⟨fun j=>if h:j<len*n then Classical.choose (cell j h) else 0,fun j hj=>by
      have:=Classical.choose_spec (cell j hj)
      simp only[dif_pos hj]
      exact this⟩
   refine ⟨zs,len,?_,fun j hj=>(hzs j hj).2⟩
   rw[hcs]
   obtain ⟨b,o,sp'⟩:=a
   simp only at hsp
   subst hsp
   exact .slcT (o:=o) (fun j=>.int k (zs j)) (fun j hj=>(hzs j hj).1) (fun j hj=>rfl) (fun j hj=>.int _ _) hl (fun h=>by cases h) (.inr rfl)

end Go.Eng
end
section
namespace Go.Eng

def I8 (b:Bool) (v:AV):Bool :=
 match v with
 | .bool c=>cond b c (cond c false true)
 | _=>false
theorem Bs (b:Bool) (v:AV):I8 b v=KO b v:=by
 cases v with
 | bool c=>cases b<;>cases c<;>rfl
 | _=>rfl
noncomputable def bm.sO (L:bm) (cx:Cx) (callR:bB) (bl:gN) (rg:rr) (k n:Nat) (kv:AV×AV) (fr:aC) (H:aa):Tr (aC×aa) :=
 (iy cx.P cx.nt cx.call callR L.ops1 L.t1 (qE cx.nt fr (some L.nx) (.tup [.bool true,kv.1,kv.2],none)) H).bind fun x =>
   cond (I8 true (lh x.1 L.mo).1) (cond (kI k (lh x.1 L.it).1)
    ((iy cx.P cx.nt cx.call callR L.ops2 L.t2 (qE cx.nt x.1 (some L.en) (.tup [kv.1,kv.2],none)) x.2).bind fun y =>
      (aN cx callR bl rg L.rest y.1 y.2).bind fun z=>match z with
        | (.normal,fr,H)=>cond (kI k (lh (gv fr L.km) L.it).1) (.ok (gv fr L.km,ld n (strip (gv fr L.km)) H)) .bad
        | _=>.bad) .bad) .bad
theorem bm.Dl {L:bm} {cx:Cx} {callR:bB} {bl:gN} {rg:rr} (hC:callR.Ok cx.call) (hB:bl.Ok cx L.rest) (hR:rg.Ok cx L.rest) {k n:Nat} {kv:AV×AV} {fr:aC} {H:aa} {y:aC×aa} (h:(L.sO cx callR bl rg k n kv fr H).run=some y) :
 L.round cx k n kv (strip fr) H=some (strip y.1,y.2):=by
 unfold bm.sO at h
 obtain ⟨x,h1,h⟩:=Tr.bind_some h
 obtain ⟨b1,h⟩:=Tr.aF h
 obtain ⟨b2,h⟩:=Tr.aF h
 obtain ⟨z,h2,h⟩:=Tr.bind_some h
 obtain ⟨u,h3,h⟩:=Tr.bind_some h
 have h1:=fA hC _ _ _ _ h1
 have h2:=fA hC _ _ _ _ h2
 have h3:=oh hC L.rest hB hR _ _ _ h3
 rw[lY] at h1 h2
 rw[Bs,fe] at b1
 rw[fe] at b2
 unfold bm.round
 rw[bX,h1]
 dsimp only
 rw[b1,b2,Bool.and_self,if_pos rfl,bX,h2]
 dsimp only
 rw[cZ,h3]
 obtain ⟨e,f,G⟩:=u
 cases e with
 | normal =>
   dsimp only at h
   obtain ⟨b3,h⟩:=Tr.aF h
   rw[fe,eM] at b3
   show (if kI k (bk (bG (strip f) L.km) L.it) then _ else none)=_
   rw[if_pos b3,← Tr.ab h,eM]
 | _=>exact (Tr.ae h).elim
noncomputable def bm.x8 (L:bm) (cx:Cx) (callR:bB) (fr:aC) (H:aa):Tr (aC×aa) :=
 (iy cx.P cx.nt cx.call callR L.ops1 L.t1 (qE cx.nt fr (some L.nx) (.tup [.bool false],none)) H).bind fun x=>cond (I8 false (lh x.1 L.mo).1) (.ok x) .bad
theorem bm.ED {L:bm} {cx:Cx} {callR:bB} (hC:callR.Ok cx.call) {fr:aC} {H:aa} {y:aC×aa} (h:(L.x8 cx callR fr H).run=some y):L.last cx (strip fr) H=some (strip y.1,y.2):=by
 unfold bm.x8 at h
 obtain ⟨x,h1,h⟩:=Tr.bind_some h
 obtain ⟨b1,h⟩:=Tr.aF h
 have h1:=fA hC _ _ _ _ h1
 rw[lY] at h1
 rw[Bs,fe] at b1
 unfold bm.last
 rw[bX,h1]
 dsimp only
 rw[if_pos b1,← Tr.ab h]
noncomputable def cw.Lh (S:cw) (cx:Cx) (callR:bB) (fr:aC) (H:aa):Tr (aC×aa):=iy cx.P cx.nt cx.call callR S.ops0 S.pre fr H
theorem cw.G8 {S:cw} {cx:Cx} {callR:bB} (hC:callR.Ok cx.call) {fr:aC} {H:aa} {y:aC×aa} (h:(S.Lh cx callR fr H).run=some y):dj cx.P cx.nt cx.call S.ops0 S.pre (strip fr) H=some (strip y.1,y.2):=by
 rw[bX]
 exact fA hC _ _ _ _ h
end Go.Eng
end
