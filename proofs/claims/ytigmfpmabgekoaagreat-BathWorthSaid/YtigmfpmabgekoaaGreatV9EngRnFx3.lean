/- The engine: loops over maps whose outcome, if they are run to their end, does not hang on the order. -/
import Derived.Test.YtigmfpmabgekoaaGreatV9EngRnLx4
set_option linter.unusedVariables false
set_option linter.unusedSimpArgs false
section
namespace Go.Eng
open Go.ChangeMaps (setBlock)

theorem qx {L:bm} {cx:Cx} {k n:Nat} {R:aa}:∀ (a b:List (AV×AV)) (s:av×bx),dw L cx k n R (a++b) s=(dw L cx k n R a s).bind (dw L cx k n R b)
 | [],b,s=>rfl
 | kv::a,b,s=>by
   show (match cZ L cx k n R kv s with | some t=>dw L cx k n R (a++b) t | none=>none)=(match cZ L cx k n R kv s with | some t=>dw L cx k n R a t | none=>none).bind _
   cases cZ L cx k n R kv s with
   | none=>rfl
   | some t=>exact qx a b t
theorem DY {L:bm} {cx:Cx} {k n:Nat} {R:aa} {kv:AV×AV} {s t:av×bx} (h:cZ L cx k n R kv s=some t):bw t.1 L.it=.ptr 0 k 0 0:=by
 obtain ⟨R1,h⟩:=fZ h
 unfold bm.round at h
 split at h
 · split at h
   · split at h
     · split at h
       · split at h
         · rename_i hp
           simp only[nP] at h
           rw[← h.1];exact fk hp
         · simp at h
       · simp at h
     · simp at h
   · simp at h
 · simp at h
theorem Fa {L:bm} {cx:Cx} {k n:Nat} {R:aa} {s0:av×bx} (h0:bw s0.1 L.it=.ptr 0 k 0 0):∀ (l:List (AV×AV)) (s:av×bx),dw L cx k n R l s0=some s→bw s.1 L.it=.ptr 0 k 0 0:=by
 intro l
 induction l generalizing s0 with
 | nil=>intro s h;simp only[dw,Option.some.injEq] at h;subst h;exact h0
 | cons kv l ih =>
   intro s h
   simp only[dw] at h
   cases hr:cZ L cx k n R kv s0 with
   | none=>rw[hr] at h;simp at h
   | some t=>rw[hr] at h;exact ih (DY hr) s h
theorem yM {vs:List Nat} {n:Nat} (hn:vs.Nodup) (hl:∀ j ∈ vs,j<n) (hin:∀ j,j<n→j ∈ vs):vs.length=n:=by
 have hp:vs.Perm (List.range n):=(List.perm_ext_iff_of_nodup hn List.nodup_range).2 (fun a=>by rw[List.mem_range];exact ⟨hl a,hin a⟩)
 have:=hp.length_eq
 simpa using this
theorem Dw {L:bm} {cx:Cx} {k n:Nat} {R:aa} {es:List (AV×AV)} {s0:av×bx} (hall:∀ vs:List Nat,vs.Nodup→vs.length=es.length→(∀ j ∈ vs,j<es.length)→∃ s,dw L cx k n R (vs.map fun j=>es.getD j (.undef,.undef)) s0=some s)
 {vs:List Nat} (hn:vs.Nodup) (hl:∀ j ∈ vs,j<es.length) {s:av×bx} (hf:dw L cx k n R (vs.map fun j=>es.getD j (.undef,.undef)) s0=some s) {j:Nat} (hj:j<es.length) (hjv:j ∉ vs) :
 ∃ t,dw L cx k n R ((vs++[j]).map fun j=>es.getD j (.undef,.undef)) s0=some t∧cZ L cx k n R (es.getD j (.undef,.undef)) s=some t:=by
 let ws:=(vs++[j])++(List.range es.length).filter fun i=>!(vs++[j]).contains i
 have hnj:(vs++[j]).Nodup:=List.nodup_append.2 ⟨hn,by simp,fun x hx y hy e=>by
  rw[List.mem_singleton] at hy
  subst hy;subst e;exact hjv hx⟩
 have hlj:∀ i ∈ vs++[j],i<es.length:=fun i hi=>by
  rcases List.mem_append.1 hi with h | h
  · exact hl i h
  · rw[List.mem_singleton] at h;rw[h];exact hj
 have hwn:ws.Nodup:=List.nodup_append.2 ⟨hnj,List.Nodup.sublist List.filter_sublist List.nodup_range,fun x hx y hy e=>by
  subst e
  have:=(List.mem_filter.1 hy).2
  simp only[Bool.not_eq_true',List.contains_eq_mem,decide_eq_false_iff_not] at this
  exact this hx⟩
 have hwl:∀ i ∈ ws,i<es.length:=fun i hi=>by
  rcases List.mem_append.1 hi with h | h
  · exact hlj i h
  · exact List.mem_range.1 (List.mem_filter.1 h).1
 have hwi:∀ i,i<es.length→i ∈ ws:=fun i hi=>by
  by_cases e:i ∈ vs++[j]
  · exact List.mem_append.2 (.inl e)
  · exact List.mem_append.2 (.inr (List.mem_filter.2 ⟨List.mem_range.2 hi,by simpa using e⟩))
 obtain ⟨u,hu⟩:=hall ws hwn (yM hwn hwl hwi) hwl
 rw[List.map_append,qx] at hu
 cases ht:dw L cx k n R ((vs++[j]).map fun j=>es.getD j (.undef,.undef)) s0 with
 | none=>rw[ht] at hu;simp at hu
 | some t =>
   refine ⟨t,rfl,?_⟩
   rw[List.map_append,qx,hf] at ht
   simp only[Option.bind_some,List.map_cons,List.map_nil,dw] at ht
   cases hr:cZ L cx k n R (es.getD j (.undef,.undef)) s with
   | none=>rw[hr] at ht;simp at ht
   | some t'=>rw[hr] at ht;exact ht

theorem DL {cx:Cx} {F:Fence} (hFW:cT F) (hN:cH cx.P) (hC:bR cx.P cx.call) (hX:c7 cx F) {L:bm} (hL:L.Ok) (hit:L.it<cx.nt)
 {k n:Nat} {es:List (AV×AV)} {s0:av×bx} {R:aa} {E:av→aa→Prop} (hlk:∀ d,az R d=true) (hk0:bw s0.1 L.it=.ptr 0 k 0 0)
 (hall:∀ vs:List Nat,vs.Nodup→vs.length=es.length→(∀ j ∈ vs,j<es.length)→∃ s fr' H',dw L cx k n R (vs.map fun j=>es.getD j (.undef,.undef)) s0=some s∧L.last cx s.1 (s.2::R)=some (fr',H')∧E fr' H')
 -- the base
 {p0:aJ} {M0:Mu} {lb:bx} {Hb:aa} {w0:World} (hHb:Hb=lb::R) (hH0:a8 p0 M0 Hb w0) (hn:ar Hb=n) (hne:Hb≠[]) (hRo:nT F cx.ro M0) {n0 b clock:Nat} {ces:Array MapEntry} (hkb:Go.Eng.bf M0 Hb b) (hb0:w0.heap[b]?=some (.map ces clock)) (hborn:jv ces clock) (hsz:ces.size=es.length)
 (hrel:∀ j,(h:j<ces.size)→ai p0 M0 (es.getD j (.undef,.undef)).1 ces[j].key∧ai p0 M0 (es.getD j (.undef,.undef)).2 ces[j].val)
 -- where it begins
 {r:Nat} (hr0:w0.heap.size≤r) {p:aJ} {M:Mu} {fr:av} {l0:bx} {a:Act} {w:World} (hE:b9 p0 M0 Hb w0 p M (l0::R) w) (hF:bU p M cx.nt fr a) (hM:Marks n0 M (l0::R) w a.defers) (hx:(fr,l0)=s0) (hr:w.heap[r]?=some (.mapIter (some b) clock #[] clock))
 (ha:a.tmps.getD L.it Go.undef=.pointer (some ⟨r,0,none⟩)) {Q:Exit→Act→World→Prop} (hQ:∀ fr' H',E fr' H'→∀ a' w',Eg n0 p0 M0 Hb w0 cx.nt fr' H' a' w'→Q .normal a' w'):L.code.wpIn F 0 cx.P Q a w:=by
 have hbl:b<w0.heap.size:=(Array.getElem?_eq_some_iff.1 hb0).1
 have hnod:(ces.toList.map (·.born)).Nodup:=by
  refine List.pairwise_iff_getElem.2 fun i i' hi hi' hlt e=>?_
  simp only[List.length_map,Array.length_toList] at hi hi'
  have:=hborn.2 i i' hi hi' (by simpa using e)
  omega
 -- of the iterator's slot
 have slot:∀ {p:aJ} {M:Mu} {fr:av} {a:Act},bU p M cx.nt fr a→bw fr L.it=.ptr 0 k 0 0→a.tmps.getD L.it Go.undef=.pointer (some ⟨r,0,none⟩)→∃ t,M 0 k 0=some (r,0,t):=by
  intro p M fr a hF hk he
  have:=hF.at_ L.it
  rw[hk,he] at this
  generalize hz:(Value.pointer (some ⟨r,0,none⟩))=z at this
  cases this
  rename_i b' o' t' hm
  simp only[Value.pointer.injEq,Option.some.injEq,Addr.mk.injEq] at hz
  obtain ⟨rfl,hz,_⟩:=hz
  obtain rfl:o'=0:=by omega
  exact ⟨t',hm⟩
 have slot':∀ {p:aJ} {M:Mu} {fr:av} {a:Act} {t:Nat},bU p M cx.nt fr a→bw fr L.it=.ptr 0 k 0 0→M 0 k 0=some (r,0,t)→a.tmps.getD L.it Go.undef=.pointer (some ⟨r,0,none⟩):=by
  intro p M fr a t hF hk hm
  have:=hF.at_ L.it
  rw[hk] at this
  generalize a.tmps.getD L.it Go.undef=z at this
  cases this
  rename_i b' o' t' hm'
  rw[hm] at hm'
  simp only[nP] at hm'
  obtain ⟨rfl,rfl,_⟩:=hm'
  rfl
 refine wpIn_block (wpIn_loop (fun a w=>∃ p M fr l seen,b9 p0 M0 Hb w0 p M (l::R) w∧bU p M cx.nt fr a∧Marks n0 M (l::R) w a.defers∧(∃ vs:List Nat,vs.Nodup∧(∀ j ∈ vs,j<es.length)∧dw L cx k n R (vs.map fun j=>es.getD j (.undef,.undef)) s0=some (fr,l)∧∀ j,(h:j<ces.size)→(seen.contains (ces[j]).born=true↔j ∈ vs))∧w.heap[r]?=some (.mapIter (some b) clock seen clock) ∧
  a.tmps.getD L.it Go.undef=.pointer (some ⟨r,0,none⟩)) (fun _ w=>(leftOf ces (j8 r w)).size) ?_ ?_)
 · refine ⟨p,M,fr,l0,#[],hE,hF,hM,⟨[],List.nodup_nil,?_,?_,?_⟩,hr,ha⟩
   · intro j hj;cases hj
   · rw[hx];rfl
   · intro j h
     constructor
     · intro hc;simp at hc
     · intro hc;cases hc
 rintro a w ⟨p,M,fr,l,seen,hE,hF,hM,⟨vs,hvn,hvl,hvf,hvs⟩,hr,ha⟩
 have hXk:bw fr L.it=.ptr 0 k 0 0:=Fa hk0 _ _ hvf
 obtain ⟨H,hHl⟩:∃ H,H=l::R:=⟨_,rfl⟩
 rw[← hHl] at hE hM
 have hseen:j8 r w=seen:=by unfold j8;rw[hr]
 have hbw:w.heap[b]?=some (.map ces clock):=by rw[hE.stay.block b hbl hkb];exact hb0
 have hwant:∀ (o:Oper),o.guard=none→∀ y,Region.wanted o y=true:=fun o hg y=>by unfold Region.wanted;rw[hg]
 have hev:a.eval (.tmp L.it)=.pointer (some ⟨r,0,none⟩):=ha
 refine wpIn_seq (wpIn_region_list ?_)
 rw[hL.l1]
 unfold wpListIn
 rw[if_pos (hwant _ hL.g1 _)]
 rcases run_next_at (P:=cx.P) w L.no.type r b clock clock seen ces clock hr hbw (fun x hx=>by
  obtain ⟨i,hi,rfl⟩:=List.getElem_of_mem hx
  have:=hborn.1 i (by simpa using hi)
  simpa using this) (Nat.le_refl _) with ⟨hz,hrun⟩ | ⟨e,he,w1,hw1,hrun⟩
 · -- nothing is left
   refine j5 hFW (by rw[hL.o1];intro c h;cases h) (cv:=.tuple #[.bool false]) (w':=w) (by simp only[execOp,hL.o1,hev];simp[Sem.run_bind,hrun,Result.andThen]) ?_
   have hin:∀ j,j<es.length→j ∈ vs:=fun j hjl=>by
    have hj:j<ces.size:=by rw[hsz];exact hjl
    refine (hvs j hj).1 (Classical.byContradiction fun hc=>?_)
    have hc':seen.contains (ces[j]).born=false:=by simpa using hc
    have:ces[j] ∈ leftOf ces seen:=by
     unfold leftOf
     rw[Array.mem_filter]
     exact ⟨Array.getElem_mem hj,by rw[hc'];rfl⟩
    have:=Array.size_pos_of_mem this
    omega
   obtain ⟨s,frX,HX,hs1,hl,hEX⟩:=hall vs hvn (yM hvn hvl hin) hvl
   rw[hvf] at hs1
   simp only[Option.some.injEq] at hs1
   rw[← hs1] at hl
   dsimp only at hl
   rw[← hHl] at hl
   unfold bm.last at hl
   rw[cA] at hl
   cases hro:dQ cx.P cx.nt cx.call L.ops1 L.t1 (dz cx.nt fr (some L.nx) (.tup [.bool false])) H with
   | none=>rw[hro] at hl;simp at hl
   | some q =>
     obtain ⟨si,HE⟩:=q
     rw[hro] at hl
     dsimp only at hl
     split at hl
     · rename_i hb
       simp only[nP] at hl
       obtain ⟨rfl,rfl⟩:=hl
       have hput:=hF.put (some L.nx) (v:=.tup [.bool false]) (c:=.tuple #[.bool false]) (.tup rfl (fun j hj=>by
        obtain rfl:j=0:=by simpa using hj
        exact .bool _))
       rw[hL.d1]
       refine eu hFW hN hC _ _ _ _ _ hro p M _ w hput hE.rel (hE.ne hne) (fun a2 w2 ⟨p2,M2,hE2,hF2,hd2⟩=>?_)
       refine wpIn_seq ?_
       have hmo:=hF2.at_ L.mo
       rw[xz hb] at hmo
       have hc:a2.eval (.tmp L.mo)=.bool false:=by
        show a2.tmps.getD L.mo Go.undef=_
        generalize a2.tmps.getD L.mo Go.undef=z at hmo
        cases hmo;rfl
       refine wpIn_cond_false hc (wpIn_exit ?_)
       show Exit.inBlock L.out Q (.exit L.out) a2 w2
       simp only[Exit.inBlock,if_true]
       refine hQ _ _ hEX a2 w2 ⟨p2,M2,hE.trans hE2,hF2,?_⟩
       rw[hd2,put_defers]
       exact hM.po hE2
     · simp at hl
 · -- an entry comes
   have hemem:e ∈ ces.toList:=by
    unfold leftOf at he
    simp at he
    simpa using he.1
   obtain ⟨j,hj,hje⟩:=List.getElem_of_mem hemem
   have hj':j<ces.size:=by simpa using hj
   have hje':ces[j]=e:=by simpa using hje
   have hjl:j<es.length:=by rw[← hsz];exact hj'
   have hjv:j ∉ vs:=fun hc=>by
    have h1:=(hvs j hj').2 hc
    rw[hje'] at h1
    unfold leftOf at he
    simp only[Array.toList_filter,List.mem_filter,Bool.not_eq_true'] at he
    rw[h1] at he
    exact absurd he.2 (by decide)
   obtain ⟨⟨frN,lN⟩,hfN,hstep⟩:=Dw (fun ws h1 h2 h3=>by obtain ⟨s,_,_,h4,_⟩:=hall ws h1 h2 h3;exact ⟨s,h4⟩) hvn hvl hvf hjl hjv
   obtain ⟨RN,hround⟩:=fZ hstep
   dsimp only at hround
   have hround':=hround
   rw[← hHl] at hround'
   unfold bm.round at hround'
   simp only[cA,dK] at hround'
   obtain ⟨hkey,hval⟩:=hrel j hj'
   rw[hje'] at hkey hval
   have hE1:b9 p0 M0 Hb w0 p M H w1∧Marks n0 M H w1 a.defers∧w1.heap[r]?=some (.mapIter (some b) clock seen clock):=by
    rcases hw1 with rfl | rfl
    · exact ⟨hE,hM,hr⟩
    · exact ⟨hE.drew,hM.drew,hr⟩
   obtain ⟨hE1,hM1,hr1⟩:=hE1
   have hE2:=hE1.FV hr1 hr0 (.mapIter (some b) clock (seen.push e.born) clock)
   have hM2:=hM1.FV hr1 (.mapIter (some b) clock (seen.push e.born) clock)
   have hr2:(setBlock w1 r (.mapIter (some b) clock (seen.push e.born) clock)).heap[r]?=some (.mapIter (some b) clock (seen.push e.born) clock):=by
    have hlt:r<w1.heap.size:=(Array.getElem?_eq_some_iff.1 hr1).1
    simp[setBlock,hlt]
   generalize setBlock w1 r (.mapIter (some b) clock (seen.push e.born) clock)=w2 at hrun hE2 hM2 hr2
   refine j5 hFW (by rw[hL.o1];intro c h;cases h) (cv:=.tuple #[.bool true,e.key,e.val]) (w':=w2) (by simp only[execOp,hL.o1,hev];simp[Sem.run_bind,hrun,Result.andThen]) ?_
   rw[hL.d1]
   have hput:=hF.put (some L.nx) (v:=.tup [.bool true,(es.getD j (.undef,.undef)).1,(es.getD j (.undef,.undef)).2]) (c:=.tuple #[.bool true,e.key,e.val]) (.tup rfl (fun i hi=>by
    match i,hi with
    | 0,_=>exact .bool _
    | 1,_=>exact hkey.mono hE2.pst hE2.mu
    | 2,_=>exact hval.mono hE2.pst hE2.mu))
   cases hro:dQ cx.P cx.nt cx.call L.ops1 L.t1 (dz cx.nt fr (some L.nx) (.tup [.bool true,(es.getD j (.undef,.undef)).1,(es.getD j (.undef,.undef)).2])) H with
   | none=>rw[hro] at hround';simp at hround'
   | some q =>
     obtain ⟨frA,HA⟩:=q
     rw[hro] at hround'
     dsimp only at hround'
     split at hround'
     · rename_i hcA
       simp only[Bool.and_eq_true] at hcA
       obtain ⟨hcA1,hcA2⟩:=hcA
       obtain ⟨t,hmk⟩:=slot hF hXk ha
       refine eu hFW hN hC _ _ _ _ _ hro p M _ w2 hput hE2.rel (hE2.ne hne) (fun a3 w3 ⟨p3,M3,hE3,hF3,hd3⟩=>?_)
       refine wpIn_seq ?_
       have hmo:=hF3.at_ L.mo
       rw[xz hcA1] at hmo
       have hc:a3.eval (.tmp L.mo)=.bool true:=by
        show a3.tmps.getD L.mo Go.undef=_
        generalize a3.tmps.getD L.mo Go.undef=z at hmo
        cases hmo;rfl
       refine wpIn_cond_true hc (wpIn_skip ?_)
       show Code.wpIn F 0 cx.P _ _ a3 w3
       have hmk3:=hE3.mu _ _ _ _ hmk
       have ha3:=slot' hF3 (fk hcA2) hmk3
       have hr3:w3.heap[r]?=some (.mapIter (some b) clock (seen.push e.born) clock):=by
        rw[hE3.stay.block r (Array.getElem?_eq_some_iff.1 hr2).1 (fun d i v B hg hB _ o t=>mG hE2.rel hr2 hg hB o t)];exact hr2
       have hE03:=hE2.trans hE3
       have hbw3:w3.heap[b]?=some (.map ces clock):=by rw[hE03.stay.block b hbl hkb];exact hb0
       have hM3:Marks n0 M3 HA w3 a3.defers:=by rw[hd3,put_defers];exact hM2.po hE3
       refine wpIn_block (wpIn_seq (wpIn_region_list ?_))
       rw[hL.l2]
       unfold wpListIn
       rw[if_pos (hwant _ hL.g2 _)]
       have hrunE:=run_entry_at (P:=cx.P) w3 r b clock seen ces clock e hr3 hbw3 hemem hnod
       have hev3:a3.eval (.tmp L.it)=.pointer (some ⟨r,0,none⟩):=ha3
       refine j5 hFW (by rw[hL.o2];intro c h;cases h) (cv:=.tuple #[e.key,e.val]) (w':=w3) (by simp only[execOp,hL.o2,hev3];simp[Sem.run_bind,hrunE,Result.andThen]) ?_
       rw[hL.d2]
       have hput3:=hF3.put (some L.en) (v:=.tup [(es.getD j (.undef,.undef)).1,(es.getD j (.undef,.undef)).2]) (c:=.tuple #[e.key,e.val]) (.tup rfl (fun i hi=>by
        match i,hi with
        | 0,_=>exact hkey.mono hE03.pst hE03.mu
        | 1,_=>exact hval.mono hE03.pst hE03.mu))
       cases hro2:dQ cx.P cx.nt cx.call L.ops2 L.t2 (dz cx.nt frA (some L.en) (.tup [(es.getD j (.undef,.undef)).1,(es.getD j (.undef,.undef)).2])) HA with
       | none=>rw[hro2] at hround';simp at hround'
       | some q2 =>
         obtain ⟨frB,HB⟩:=q2
         rw[hro2] at hround'
         dsimp only at hround'
         refine eu hFW hN hC _ _ _ _ _ hro2 p3 M3 _ w3 hput3 hE3.rel (hE03.ne hne) (fun a4 w4 ⟨p4,M4,hE4,hF4,hd4⟩=>?_)
         show Code.wpIn F 0 cx.P _ _ a4 w4
         have hE04:=hE03.trans hE4
         have hM4:Marks n0 M4 HB w4 a4.defers:=by rw[hd4,put_defers];exact hM3.po hE4
         split at hround'
         · rename_i frC HC hex
           split at hround'
           · rename_i hptC
             simp only[nP] at hround'
             obtain ⟨rfl,hcut⟩:=hround'
             refine cB hFW hN hC hX _ _ _ _ _ _ hex n0 p4 M4 a4 w4 _ hF4 hE4.rel (hE04.ne hne) (hRo.mono hE04.mu) hM4 (fun a5 w5 ⟨p5,M5,hE5,hF5,hM5⟩=>?_)
             show Exit.inBlock L.nxt _ .normal a5 w5
             simp only[Exit.inBlock,Exit.then]
             have hE05:=hE04.trans hE5
             have hE35:=hE4.trans hE5
             have hF5':=hF5.kill L.km
             have hmk5:=hE35.mu _ _ _ _ hmk3
             have ha5:=slot' hF5' (fk hptC) hmk5
             have hr5:w5.heap[r]?=some (.mapIter (some b) clock (seen.push e.born) clock):=by
              rw[hE35.stay.block r (Array.getElem?_eq_some_iff.1 hr3).1 (fun d i v B hg hB _ o t=>mG hE3.rel hr3 hg hB o t)];exact hr3
             obtain ⟨M6,hE6,hF6,hM6⟩:=r9 hE05 hF5' hM5 (fun d i v t hm=>(hH0.dom d i v t hm).1)
             rw[hn,hcut] at hE6 hM6
             have hRN:RN=R:=by
              have hdR:∀ d,az Hb (d+1)=true:=fun d=>by rw[hHb];exact hlk d
              refine kF _ _ (by have:=hE6.len;rw[hHb] at this;simpa using this) (fun d i=>?_) (fun d=>?_) (fun d=>?_)
              · have:=hE6.same (d+1) i (by omega) (hdR d);rw[hHb] at this;exact this
              · have:=hE6.next (d+1) (by omega) (hdR d);rw[hHb] at this;exact this
              · have:=hE6.lock (d+1);rw[hHb] at this;exact this
             rw[hRN] at hE6 hM6
             refine ⟨⟨p5,M6,_,_,seen.push e.born,hE6,hF6,hM6,⟨vs++[j],?_,?_,hfN,fun i hi=>?_⟩,hr5,ha5⟩,?_⟩
             · exact List.nodup_append.2 ⟨hvn,by simp,fun x hx y hy e=>by
                rw[List.mem_singleton] at hy
                subst hy;subst e;exact hjv hx⟩
             · intro i hi
               rcases List.mem_append.1 hi with h | h
               · exact hvl i h
               · rw[List.mem_singleton] at h;rw[h];exact hjl
             · rw[Array.contains_push,Bool.or_eq_true,hvs i hi,List.mem_append,List.mem_singleton,beq_iff_eq]
               constructor
               · rintro (h | h)
                 · exact .inl h
                 · exact .inr (hborn.2 i j hi hj' (by rw[hje'];first | exact h | exact h.symm))
               · rintro (h | h)
                 · exact .inl h
                 · subst h;rw[hje'];exact .inr rfl
             · have hs5:j8 r w5=seen.push e.born:=by unfold j8;rw[hr5]
               rw[hs5,hseen]
               exact vZ he
           · simp at hround'
         · simp at hround'
     · simp at hround'
theorem wa {cx:Cx} {F:Fence} (hFW:cT F) (hN:cH cx.P) (hC:bR cx.P cx.call) (hX:c7 cx F) {L:bm} (hL:L.Ok) (hit:L.it<cx.nt)
 {k n:Nat} {es:List (AV×AV)} {s0:av×bx} {R:aa} {fr':av} {H':aa} (hlk:∀ d,az R d=true) (hk0:bw s0.1 L.it=.ptr 0 k 0 0)
 (hall:∀ vs:List Nat,vs.Nodup→vs.length=es.length→(∀ j ∈ vs,j<es.length)→∃ s,dw L cx k n R (vs.map fun j=>es.getD j (.undef,.undef)) s0=some s∧L.last cx s.1 (s.2::R)=some (fr',H'))
 -- the base
 {p0:aJ} {M0:Mu} {lb:bx} {Hb:aa} {w0:World} (hHb:Hb=lb::R) (hH0:a8 p0 M0 Hb w0) (hn:ar Hb=n) (hne:Hb≠[]) (hRo:nT F cx.ro M0) {n0 b clock:Nat} {ces:Array MapEntry} (hkb:Go.Eng.bf M0 Hb b) (hb0:w0.heap[b]?=some (.map ces clock)) (hborn:jv ces clock) (hsz:ces.size=es.length)
 (hrel:∀ j,(h:j<ces.size)→ai p0 M0 (es.getD j (.undef,.undef)).1 ces[j].key∧ai p0 M0 (es.getD j (.undef,.undef)).2 ces[j].val)
 -- where it begins
 {r:Nat} (hr0:w0.heap.size≤r) {p:aJ} {M:Mu} {fr:av} {l0:bx} {a:Act} {w:World} (hE:b9 p0 M0 Hb w0 p M (l0::R) w) (hF:bU p M cx.nt fr a) (hM:Marks n0 M (l0::R) w a.defers) (hx:(fr,l0)=s0) (hr:w.heap[r]?=some (.mapIter (some b) clock #[] clock))
 (ha:a.tmps.getD L.it Go.undef=.pointer (some ⟨r,0,none⟩)) {Q:Exit→Act→World→Prop} (hQ:∀ a' w',Eg n0 p0 M0 Hb w0 cx.nt fr' H' a' w'→Q .normal a' w'):L.code.wpIn F 0 cx.P Q a w :=
 DL hFW hN hC hX hL hit (E:=fun x y=>x=fr'∧y=H') hlk hk0 (fun vs h1 h2 h3=>by
  obtain ⟨s,h4,h5⟩:=hall vs h1 h2 h3
  exact ⟨s,fr',H',h4,h5,rfl,rfl⟩) hHb hH0 hn hne hRo hkb hb0 hborn hsz hrel hr0 hE hF hM hx hr ha (fun x y h a' w' hn=>by
  obtain ⟨rfl,rfl⟩:=h
  exact hQ a' w' hn)
end Go.Eng
end
section
namespace Go.Eng

def Lb (cx:Cx) (L:bm) (d k:Nat) (R:aa) (s0:av×bx) (q:KK) (h:List Int→Bool) (g:List Int→Int) (c:Nat) (y:av×bx):Prop :=
 bw s0.1 L.it=.ptr 0 k 0 0∧∀ es,oT q es h g c→∀ vs:List Nat,vs.Nodup→vs.length=es.length→(∀ j ∈ vs,j<es.length) →
  ∃ s,dw L cx k (k+1) R (vs.map fun j=>(es.map fun e=>(gC (d+1) e.1,gC (d+1) e.2)).getD j (.undef,.undef)) s0=some s∧L.last cx s.1 (s.2::R)=some (y.1,y.2::R)
noncomputable def kL (cx:Cx) (S:bK) (L:bm) (fr:av) (H:aa):Option (av×aa) :=
 match cR cx.P cx.nt cx.call S.ops0 S.pre fr H with
 | some (fr1,l1::r1)=>match bw fr1 S.m with
   | .map (d+1) i=>match au (l1::r1) (d+1) i with
     | (0,.fmap q h g c) =>
       if l1.lock then none else
       @dite _ (∃ y,Lb cx L d (ar (l1::r1)) (aA r1) (dz cx.nt fr1 (some L.it) (.ptr 0 (ar (l1::r1)) 0 0),{ l1 with bs:=l1.bs++[(0,.dead)] }) q h g c y) (Classical.propDecidable _)
        (fun hx=>some ((Classical.choose hx).1,(Classical.choose hx).2::r1)) (fun _=>none)
     | _=>none
   | _=>none
 | _=>none

theorem zX {cx:Cx} {F:Fence} (hFW:cT F) (hN:cH cx.P) (hC:bR cx.P cx.call) (hX:c7 cx F) {S:bK} {L:bm} (hS:S.Ok cx.P L) (hL:L.Ok) {fr fr':av} {H H':aa} (h:kL cx S L fr H=some (fr',H')) :
 da cx.P F cx.ro cx.nt (S.code L) fr H .normal fr' H':=by
 intro n0 p M a w Q hF hH hne hR hM hQ
 unfold kL at h
 rw[cA] at h
 split at h
 case h_2=>simp at h
 rename_i fr1 l1 r1 hro
 split at h
 case h_2=>simp at h
 rename_i d i hmap
 split at h
 case h_2=>simp at h
 rename_i q hh gg cc hg
 split at h
 · simp at h
 rename_i hl0
 simp only[Bool.not_eq_true] at hl0
 split at h
 case isFalse=>simp at h
 rename_i hx
 obtain ⟨hk0,hends⟩:=Classical.choose_spec hx
 generalize Classical.choose hx=Y at h hends
 obtain ⟨si,lE⟩:=Y
 simp only[nP] at h
 obtain ⟨rfl,rfl⟩:=h
 refine wpIn_seq (wpIn_region_list ?_)
 rw[hS.l0]
 refine ga hFW hN hC _ _ _ _ _ hro p M a w hF hH hne (fun a1 w1 ⟨p1,M1,hE1,hF1,hd1⟩=>?_)
 unfold wpListIn
 rw[if_pos (by unfold Region.wanted;rw[hS.g0])]
 -- the map
 have hvm:=hF1.at_ S.m
 rw[hmap] at hvm
 obtain ⟨b,o,tt,hmu,hev⟩:∃ b o t,M1 (d+1) i 0=some (b,o,t)∧a1.tmps.getD S.m Go.undef=.map (some b):=by
  generalize a1.tmps.getD S.m Go.undef=z at hvm
  cases hvm
  rename_i b o t hm
  exact ⟨b,o,t,hm,rfl⟩
 obtain ⟨es,hEs,ces,clock,hb,hsz,hborn,hrel⟩:=mr hE1.rel hg hmu
 have hev':a1.eval (.tmp S.m)=.map (some b):=hev
 obtain ⟨kt,et,hu⟩:=hS.t0
 have hrun:=_root_.Go.run_range_map (P:=cx.P) w1 S.ty kt et b ces clock hu hb
 refine j5 hFW (by rw[hS.o0];intro c h;cases h) (cv:=.pointer (some ⟨w1.heap.size,0,none⟩)) (w':=w1.alloc (.mapIter (some b) clock #[] clock)) (by simp only[execOp,hS.o0,hev'];simp[Sem.run_bind,hrun,Result.andThen]) ?_
 unfold wpListIn
 rw[hS.d0]
 -- the base of the loop
 obtain ⟨R,hRd⟩:∃ R,R=aA r1:=⟨_,rfl⟩
 obtain ⟨lb,hlbd⟩:∃ lb,lb=({ l1 with bs:=l1.bs++[(0,.dead)] }:bx):=⟨_,rfl⟩
 rw[← hlbd,← hRd] at hends
 have hH3:a8 p1 M1 (bP (l1::r1)) w1:=hE1.rel.same (ct _) (b7 _)
 have hne3:bP (l1::r1)≠[]:=by simp[bP]
 have hEp:=b9.pad hH3 hne3 1 (dg.refl _ _)
 have hpad:kD (bP (l1::r1)) 1=lb::R:=by rw[hlbd,hRd];rfl
 rw[hpad] at hEp
 have hRl:∀ d,az R d=true:=fun d=>by rw[hRd];exact bk _ _
 have hnx:ar (bP (l1::r1))=ar (l1::r1):=by
  rw[← aG,b7,aG]
 have hnb:ar (lb::R)=ar (l1::r1)+1:=by
  rw[← hpad,← aG,iP _ hne3,if_pos rfl,hnx]
 have hdead:(au (lb::R) 0 (ar (l1::r1))).2=.dead:=by
  rw[← hpad,dM]
  exact Classical.byContradiction fun hn=>by
   have:=gW hn
   rw[b7,aG] at this
   omega
 have hlb:az (lb::R) 0=false:=by rw[hlbd];exact hl0
 have hno:∀ v,M1 0 (ar (l1::r1)) v=none:=fun v=>by
  cases hx:M1 0 (ar (l1::r1)) v with
  | none=>rfl
  | some u =>
    have:=(hE1.rel.dom _ _ _ _ hx).1
    rw[aG] at this
    omega
 have hEn:=b9.name hEp.rel hdead (by rw[aG,hnb];omega) hno hlb (.mapIter (some b) clock #[] clock)
 have hkb:Go.Eng.bf M1 (lb::R) b:=by
  intro d' i' v' B' hg' hB' hl' o' t' hm'
  cases d' with
  | succ d' =>
    rw[show az (lb::R) (d'+1)=az R d' from rfl,hRl] at hl';cases hl'
  | zero =>
    rw[← hpad,dM,ct] at hg'
    have:=(hE1.rel.apart 0 i' v' B' (d+1) i 0 (.fmap q hh gg cc) b o' t' o tt hg' hB' hg (by simp) hm' hmu).1
    omega
 have hF2:=(hF1.mono hEn.pst hEn.mu).put (some L.it) (v:=.ptr 0 (ar (l1::r1)) 0 0) (c:=.pointer (some ⟨w1.heap.size,0,none⟩)) (.ptr (o:=0) (t:=0) (by simp[bh]))
 have hM2:Marks n0 (bh M1 0 (ar (l1::r1)) 0 (w1.heap.size,0,0)) (lb::R) (w1.alloc (.mapIter (some b) clock #[] clock)) (a1.put (some L.it) (.pointer (some ⟨w1.heap.size,0,none⟩))).defers:=by
  rw[put_defers,hd1]
  have m1:=hM.po hE1
  have m3:Marks n0 M1 (bP (l1::r1)) w1 a.defers:=by
   obtain ⟨rs,g1,g2,g0,g3⟩:=m1
   refine ⟨rs,g1,g2,g0,fun q hq=>⟨(g3 q hq).1,fun d' i' v' B' hg' hB' hl' o' t'=>?_,(g3 q hq).2.2⟩⟩
   rw[ct] at hg'
   cases d' with
   | zero=>exact (g3 q hq).2.1 0 i' v' B' hg' hB' hl0 o' t'
   | succ d' =>
     have:az (aA r1) d'=true:=bk _ _
     have h7:az (bP (l1::r1)) (d'+1)=az (aA r1) d':=rfl
     rw[h7,this] at hl';cases hl'
  exact (m3.po hEp).po hEn
 have hR2:nT F cx.ro M1:=hR.mono hE1.mu
 have hkvs:(es.map fun e=>(gC (d+1) e.1,gC (d+1) e.2)).length=es.length:=by simp
 have hit:L.it<cx.nt:=by
  refine Nat.lt_of_not_le fun hle=>?_
  have h8:=hF2.at_ L.it
  rw[hk0] at h8
  have:(a1.put (some L.it) (.pointer (some ⟨w1.heap.size,0,none⟩))).tmps.getD L.it Go.undef=Go.undef:=by
   have hs:=hF2.size
   rw[Array.getD_eq_getD_getElem?,Array.getElem?_eq_none (by omega)];rfl
  rw[this] at h8
  cases h8
 have hslot:(a1.put (some L.it) (.pointer (some ⟨w1.heap.size,0,none⟩))).tmps.getD L.it Go.undef=.pointer (some ⟨w1.heap.size,0,none⟩):=by
  have hs:=hF1.size
  simp[Act.put,hs,hit]
 refine wa hFW hN hC hX hL hit (k:=ar (l1::r1)) (n:=ar (l1::r1)+1) (es:=es.map fun e=>(gC (d+1) e.1,gC (d+1) e.2)) (s0:=(dz cx.nt fr1 (some L.it) (.ptr 0 (ar (l1::r1)) 0 0),lb)) (R:=R) hRl hk0 (fun vs v1 v2 v3=>hends es hEs vs v1 (by rw[v2,hkvs]) (fun j hj=>by rw[← hkvs];exact v3 j hj)) rfl hEp.rel hnb (by simp) hR2 hkb hb hborn (by rw[hkvs];exact hsz) ?_ (Nat.le_refl _) hEn hF2 hM2 rfl (World.alloc_heap_new _ _) hslot (fun a' w' hnow=>?_) (fr':=si) (H':=lE::R)
 · intro j hj
   have hj2:j<es.length:=by rw[← hsz];exact hj
   have:=hrel j hj
   have e1:(es.map fun e=>(gC (d+1) e.1,gC (d+1) e.2)).getD j (.undef,.undef)=(gC (d+1) (es.getD j (.undef,.undef)).1,gC (d+1) (es.getD j (.undef,.undef)).2):=by
    simp[List.getD_eq_getElem?_getD,List.getElem?_eq_getElem hj2]
   rw[e1]
   exact ⟨this.1.up,this.2.up⟩
 · obtain ⟨p',M',e1,e2,e3⟩:=hnow
   have e4:b9 p1 M1 (bP (l1::r1)) w1 p' M' (lE::R) w':=hEp.trans e1
   rw[hRd] at e4 e3
   have e5:=b9.unlock hE1.rel hl0 e4
   have e7:=hE1.trans e5
   refine hQ a' w' ⟨p',M',e7,e2,?_⟩
   obtain ⟨rs,g1,g2,g0,g3⟩:=e3
   refine ⟨rs,g1,g2,g0,fun q hq=>⟨(g3 q hq).1,?_,(g3 q hq).2.2⟩⟩
   -- a mark is kept: it is no block that is known
   intro d' i' v' B' hg' hB' hl' o' t' hm'
   obtain ⟨b2,o2,t2,k1,k2,_⟩:=e7.rel.live d' i' v' B' hg' hB'
   rw[hm'] at k1
   simp only[nP] at k1
   obtain ⟨rfl,_,_⟩:=k1
   have hq1:=(g3 q hq).1
   cases B' with
   | dead=>exact hB' rfl
   | row r=>obtain ⟨_,_,e,_⟩:=k2;rw[hq1] at e;simp at e
   | map es=>obtain ⟨_,_,e,_⟩:=k2;rw[hq1] at e;simp at e
   | fmap kq f g c=>obtain ⟨_,_,_,_,e,_⟩:=k2;rw[hq1] at e;simp at e
   | loop l=>obtain ⟨_,e,_⟩:=k2;rw[hq1] at e;simp at e
noncomputable def mT (cx:Cx) (S:bK) (L:bm) (fr:av) (H:aa):Option (av×aa) :=
 match kJ cx S L fr H with
 | some x=>some x
 | none=>kL cx S L fr H
theorem vo {cx:Cx} {F:Fence} (hFW:cT F) (hN:cH cx.P) (hC:bR cx.P cx.call) (hX:c7 cx F) {S:bK} {L:bm} (hS:S.Ok cx.P L) (hL:L.Ok) {fr fr':av} {H H':aa} (h:mT cx S L fr H=some (fr',H')) :
 da cx.P F cx.ro cx.nt (S.code L) fr H .normal fr' H':=by
 unfold mT at h
 split at h
 · rename_i x e
   simp only[Option.some.injEq] at h
   subst h
   exact nL hFW hN hC hX hS hL e
 · exact zX hFW hN hC hX hS hL h
end Go.Eng
end
section
namespace Go.Eng

def sF (cx:Cx) (L:bm) (k:Nat) (R:aa) (s0:av×bx) (q:KK) (h:List Int→Bool) (g:List Int→Int) (c:Nat) (y:av×bx):Prop :=
 bw s0.1 L.it=.ptr 0 k 0 0∧∀ es,oT q es h g c→∀ vs:List Nat,vs.Nodup→vs.length=es.length→(∀ j ∈ vs,j<es.length) →
  ∃ s,dw L cx k (k+1) R (vs.map fun j=>es.getD j (.undef,.undef)) s0=some s∧L.last cx s.1 (s.2::R)=some (y.1,y.2::R)
noncomputable def Mz (cx:Cx) (L:bm) (n i k:Nat) (fr1:av) (lk:bx):av×bx:=(dz cx.nt (jY (qS n i) fr1) (some L.it) (.ptr 0 k 0 0),{ lk with bs:=lk.bs++[(0,.dead)] })
noncomputable def gS (cx:Cx) (S:bK) (L:bm) (fr:av) (H:aa):Option (av×aa) :=
 match cR cx.P cx.nt cx.call S.ops0 S.pre fr H with
 | some (fr1,l1::r1)=>match bw fr1 S.m with
   | .map 0 i=>match au (l1::r1) 0 i with
     | (0,.fmap q hh gg cc) =>
       if l1.lock then none else
       match cI (l1::r1) 0 i with
       | lk::r2 =>
         @dite _ (∃ y,sF cx L (ar (l1::r1)) (aA r2++[iy (.fmap q hh gg cc)]) (Mz cx L (r2.length+1) i (ar (l1::r1)) fr1 lk) q hh gg cc y) (Classical.propDecidable _)
          (fun hx=>if (Classical.choose hx).2.bs.all (fun x=>rp (r2.length+1) i x.2) && ((jY (sM (r2.length+1) i) (Classical.choose hx).1).all (fun x=>lS (r2.length+1) i x.2) && eX (aq (Classical.choose hx).2.bs i).2) then some (jY (sM (r2.length+1) i) (Classical.choose hx).1,dq ((Classical.choose hx).2::r2) 0 i (0,.fmap q hh gg cc)) else none)
          (fun _=>none)
       | _=>none
     | _=>none
   | _=>none
 | _=>none

theorem zY {cx:Cx} {F:Fence} (hFW:cT F) (hN:cH cx.P) (hC:bR cx.P cx.call) (hX:c7 cx F) {S:bK} {L:bm} (hS:S.Ok cx.P L) (hL:L.Ok) {fr fr':av} {H H':aa} (h:gS cx S L fr H=some (fr',H')) :
 da cx.P F cx.ro cx.nt (S.code L) fr H .normal fr' H':=by
 intro n0 p M a w Q hF hH hne hR hM hQ
 unfold gS at h
 rw[cA] at h
 split at h
 case h_2=>simp at h
 rename_i fr1 l1 r1 hro
 split at h
 case h_2=>simp at h
 rename_i i hmap
 split at h
 case h_2=>simp at h
 rename_i q hh gg cc hg
 split at h
 · simp at h
 rename_i hl0
 simp only[Bool.not_eq_true] at hl0
 split at h
 case h_2=>simp at h
 rename_i lk r2 hk1
 split at h
 case isFalse=>simp at h
 rename_i hx
 obtain ⟨hk0,hends⟩:=Classical.choose_spec hx
 generalize Classical.choose hx=Y at h hends
 obtain ⟨si,lE⟩:=Y
 dsimp only at h hends
 split at h
 case isFalse=>simp at h
 rename_i hchk
 simp only[Bool.and_eq_true] at hchk
 obtain ⟨hcB,hcF,hcD⟩:=hchk
 simp only[nP] at h
 obtain ⟨rfl,rfl⟩:=h
 unfold Mz at hk0 hends
 refine wpIn_seq (wpIn_region_list ?_)
 rw[hS.l0]
 refine ga hFW hN hC _ _ _ _ _ hro p M a w hF hH hne (fun a1 w1 ⟨p1,M1,hE1,hF1,hd1⟩=>?_)
 unfold wpListIn
 rw[if_pos (by unfold Region.wanted;rw[hS.g0])]
 -- the map
 have hvm:=hF1.at_ S.m
 rw[hmap] at hvm
 obtain ⟨b,o,tt,hmu,hev⟩:∃ b o t,M1 0 i 0=some (b,o,t)∧a1.tmps.getD S.m Go.undef=.map (some b):=by
  generalize a1.tmps.getD S.m Go.undef=z at hvm
  cases hvm
  rename_i b o t hm
  exact ⟨b,o,t,hm,rfl⟩
 obtain ⟨es,hEs,ces,clock,hb,hsz,hborn,hrel⟩:=mr hE1.rel hg hmu
 have hev':a1.eval (.tmp S.m)=.map (some b):=hev
 obtain ⟨kt,et,hu⟩:=hS.t0
 have hrun:=_root_.Go.run_range_map (P:=cx.P) w1 S.ty kt et b ces clock hu hb
 refine j5 hFW (by rw[hS.o0];intro c h;cases h) (cv:=.pointer (some ⟨w1.heap.size,0,none⟩)) (w':=w1.alloc (.mapIter (some b) clock #[] clock)) (by simp only[execOp,hS.o0,hev'];simp[Sem.run_bind,hrun,Result.andThen]) ?_
 unfold wpListIn
 rw[hS.d0]
 -- the base of the loop: the map has sunk
 have hlen:(l1::r1).length=r2.length+1:=by
  have:=fh (l1::r1) 0 i
  rw[hk1] at this;simpa using this.symm
 have hlenR:(aA r2).length+1=r2.length+1:=by rw[cr]
 have hle:Mu.le M1 (kg M1 (r2.length+1) i):=by have:=qk hE1.rel i;rwa [hlen] at this
 have hsink:a8 p1 (kg M1 (r2.length+1) i) (lk::aA r2++[iy (.fmap q hh gg cc)]) w1:=by
  have:=hE1.rel.sink hg (by simp) Dv
  rw[hlen,hk1] at this
  refine this.same (fun d j=>?_) (fun d=>?_)
  · rw[fC,fC]
    have e1:(lk::aA r2).length=(lk::r2).length:=by simp[cr]
    rw[e1]
    by_cases e:d<(lk::r2).length
    · rw[if_pos e,if_pos e];exact ct (lk::r2) d j
    · rw[if_neg e,if_neg e]
  · rw[dT,dT]
    have e1:(lk::aA r2).length=(lk::r2).length:=by simp[cr]
    rw[e1]
    by_cases e:d<(lk::r2).length
    · rw[if_pos e,if_pos e];exact b7 (lk::r2) d
    · rw[if_neg e,if_neg e]
 have hlk0:lk.lock=false:=by
  have:=cK (l1::r1) 0 i 0
  rw[hk1] at this
  exact this.trans hl0
 have hEp:=b9.pad hsink (by simp) 1 (dg.refl _ _)
 have hpad:kD (lk::aA r2++[iy (.fmap q hh gg cc)]) 1={ lk with bs:=lk.bs++[(0,.dead)] } :: (aA r2++[iy (.fmap q hh gg cc)]):=rfl
 obtain ⟨lb,hlbd⟩:∃ lb,lb=({ lk with bs:=lk.bs++[(0,.dead)] }:bx):=⟨_,rfl⟩
 obtain ⟨R,hRd⟩:∃ R,R=aA r2++[iy (.fmap q hh gg cc)]:=⟨_,rfl⟩
 rw[← hlbd,← hRd] at hends
 rw[hpad,← hlbd,← hRd] at hEp
 have hRl:∀ d,az R d=true:=fun d=>by
  rw[hRd,iO]
  split
  · exact bk _ _
  · cases (d-(aA r2).length)<;>rfl
 have hnx:ar (lk::aA r2++[iy (.fmap q hh gg cc)])=ar (l1::r1):=by
  have:ah (cI (l1::r1) 0 i) 0=ah (l1::r1) 0:=bz _ _ _ _
  rw[hk1] at this
  exact this
 have hnb:ar (lb::R)=ar (l1::r1)+1:=by
  rw[← hnx,hlbd]
  show (lk.bs++[(0,aj.dead)]).length=lk.bs.length+1
  simp
 have hdead:(au (lb::R) 0 (ar (l1::r1))).2=.dead:=by
  rw[← hnx,hlbd]
  exact Classical.byContradiction fun hn=>by
   have h1:=dM (lk::aA r2++[iy (.fmap q hh gg cc)]) 1 0 (ar (lk::aA r2++[iy (.fmap q hh gg cc)]))
   rw[hpad] at h1
   have h2:au ({ lk with bs:=lk.bs++[(0,.dead)] } :: R) 0 (ar (lk::aA r2++[iy (.fmap q hh gg cc)]))=au (lk::aA r2++[iy (.fmap q hh gg cc)]) 0 (ar (lk::aA r2++[iy (.fmap q hh gg cc)])):=h1
   rw[h2] at hn
   have:=gW hn
   rw[aG] at this
   omega
 have hlb:az (lb::R) 0=false:=by rw[hlbd];exact hlk0
 have hno:∀ v,kg M1 (r2.length+1) i 0 (ar (l1::r1)) v=none:=fun v=>by
  unfold kg
  rw[if_neg (by omega)]
  cases hx:M1 0 (ar (l1::r1)) v with
  | none=>rfl
  | some u =>
    have:=(hE1.rel.dom _ _ _ _ hx).1
    rw[aG] at this
    omega
 have hEn:=b9.name hEp.rel hdead (by rw[aG,hnb];omega) hno hlb (.mapIter (some b) clock #[] clock)
 have hkb:Go.Eng.bf (kg M1 (r2.length+1) i) (lb::R) b:=by
  intro d' i' v' B' hg' hB' hl' o' t' hm'
  cases d' with
  | succ d' =>
    rw[show az (lb::R) (d'+1)=az R d' from rfl,hRl] at hl';cases hl'
  | zero =>
    have h1:=dM (lk::aA r2++[iy (.fmap q hh gg cc)]) 1 0 i'
    rw[hpad,← hlbd,← hRd,hg'] at h1
    have h2:au (cI (l1::r1) 0 i) 0 i'=(v',B'):=by rw[hk1];exact h1.symm
    unfold kg at hm'
    rw[if_neg (by omega)] at hm'
    rw[cJ] at h2
    split at h2
    · simp only[Prod.mk.injEq] at h2;exact hB' h2.2.symm
    · rename_i e
      exact e (hE1.rel.apart 0 i' v' B' 0 i 0 (.fmap q hh gg cc) b o' t' o tt h2 hB' hg (by simp) hm' hmu)
 have hF1':bU p1 (kg M1 (r2.length+1) i) cx.nt (jY (qS (r2.length+1) i) fr1) a1:=⟨hF1.size,fun x=>by
  rw[je rfl]
  have:=zB hE1.rel (i:=i) (hF1.at_ x)
  rwa [hlen] at this⟩
 have hF2:=(hF1'.mono hEn.pst hEn.mu).put (some L.it) (v:=.ptr 0 (ar (l1::r1)) 0 0) (c:=.pointer (some ⟨w1.heap.size,0,none⟩)) (.ptr (o:=0) (t:=0) (by simp[bh]))
 have hM2:Marks n0 (bh (kg M1 (r2.length+1) i) 0 (ar (l1::r1)) 0 (w1.heap.size,0,0)) (lb::R) (w1.alloc (.mapIter (some b) clock #[] clock)) (a1.put (some L.it) (.pointer (some ⟨w1.heap.size,0,none⟩))).defers:=by
  rw[put_defers,hd1]
  have m1:=hM.po hE1
  have m3:Marks n0 (kg M1 (r2.length+1) i) (lk::aA r2++[iy (.fmap q hh gg cc)]) w1 a.defers:=by
   obtain ⟨rs,g1,g2,g0,g3⟩:=m1
   refine ⟨rs,g1,g2,g0,fun q hq=>⟨(g3 q hq).1,fun d' i' v' B' hg' hB' hl' o' t' hm'=>?_,(g3 q hq).2.2⟩⟩
   obtain ⟨b2,o2,t2,k1,k2,_⟩:=hsink.live d' i' v' B' hg' hB'
   rw[hm'] at k1
   simp only[nP] at k1
   obtain ⟨rfl,_,_⟩:=k1
   have hq1:=(g3 q hq).1
   cases B' with
   | dead=>exact hB' rfl
   | row r=>obtain ⟨_,_,e,_⟩:=k2;rw[hq1] at e;simp at e
   | map es=>obtain ⟨_,_,e,_⟩:=k2;rw[hq1] at e;simp at e
   | fmap kq f g c=>obtain ⟨_,_,_,_,e,_⟩:=k2;rw[hq1] at e;simp at e
   | loop l=>obtain ⟨_,e,_⟩:=k2;rw[hq1] at e;simp at e
  exact (m3.po hEp).po hEn
 have hR2:nT F cx.ro (kg M1 (r2.length+1) i):=hR.mono (hE1.mu.trans hle)
 have hit:L.it<cx.nt:=by
  refine Nat.lt_of_not_le fun hle=>?_
  have h8:=hF2.at_ L.it
  rw[hk0] at h8
  have:(a1.put (some L.it) (.pointer (some ⟨w1.heap.size,0,none⟩))).tmps.getD L.it Go.undef=Go.undef:=by
   have hs:=hF2.size
   rw[Array.getD_eq_getD_getElem?,Array.getElem?_eq_none (by omega)];rfl
  rw[this] at h8
  cases h8
 have hslot:(a1.put (some L.it) (.pointer (some ⟨w1.heap.size,0,none⟩))).tmps.getD L.it Go.undef=.pointer (some ⟨w1.heap.size,0,none⟩):=by
  have hs:=hF1.size
  simp[Act.put,hs,hit]
 refine wa hFW hN hC hX hL hit (k:=ar (l1::r1)) (n:=ar (l1::r1)+1) (es:=es) (s0:=(dz cx.nt (jY (qS (r2.length+1) i) fr1) (some L.it) (.ptr 0 (ar (l1::r1)) 0 0),lb)) (R:=R) hRl hk0 (fun vs v1 v2 v3=>hends es hEs vs v1 v2 v3) rfl hEp.rel hnb (by simp) hR2 hkb hb hborn hsz ?_ (Nat.le_refl _) hEn hF2 hM2 rfl (World.alloc_heap_new _ _) hslot (fun a' w' hnow=>?_) (fr':=si) (H':=lE::R)
 · intro j hj
   have:=hrel j hj
   exact ⟨this.1.mono (aJ.le.refl _) hle,this.2.mono (aJ.le.refl _) hle⟩
 · obtain ⟨p',MK,e1,e2,e3⟩:=hnow
   have e4:=hEp.trans e1
   rw[hRd] at e4 e3
   have hK0:a8 p1 M1 (lk::aA r2) w1:=by
    have:=hE1.rel.kill 0 i
    rw[hk1] at this
    exact this.same (fun d j=>ct (lk::r2) d j) (fun d=>b7 (lk::r2) d)
   have hv0:∀ v t,M1 0 i v=some t→v=0:=fun v t hm=>by
    have:=(hE1.rel.dom 0 i v t hm).2 (by rw[hg];simp)
    rw[hg] at this
    exact Nat.le_zero.1 this
   have e5:=b9.My hK0 (fun d=>bk r2 d) hlk0 hv0 (by rw[hlenR];exact e4) (by rw[hlenR];exact hcB) (by
    show (aq lE.bs i).2=.dead
    revert hcD
    generalize (aq lE.bs i).2=B
    cases B<;>simp[eX])
   rw[hlenR] at e5
   have hH2':a8 p1 M1 (lk::r2) w1:=by rw[← hk1];exact hE1.rel.kill 0 i
   have e6:=b9.unlock hH2' hlk0 e5
   -- the map's cells are nobody's
   have hmK:MK (r2.length+1) 0 0=some (b,o,tt):=e4.mu _ _ _ _ (by unfold kg;rw[if_pos rfl,if_pos ⟨rfl,rfl⟩];exact hmu)
   have hmK0:MK 0 i 0=some (b,o,tt):=e4.mu _ _ _ _ (hle _ _ _ _ hmu)
   have hp0:∀ x,p' b x=none:=by
    obtain ⟨b2,o2,t2,j1,_,j3⟩:=e4.rel.live (r2.length+1) 0 0 (.fmap q hh gg cc) (by
     show au ((lE::aA r2)++[iy (.fmap q hh gg cc)]) (r2.length+1) 0=_
     rw[fC,if_neg (by simp[cr])]
     simp[cr,au,iy,aq]) (by simp)
    rw[hmK] at j1
    simp only[nP] at j1
    rw[j1.1];exact j3
   have e7:=b9.restore hE1.rel hg (by simp) hmu hl0 hl0 (by rw[hk1];exact e6) (fun v1 t1 hm=>by
    unfold uL at hm
    split at hm
    · rename_i e
      exact Nat.le_of_not_lt fun hlt=>e.2 ⟨rfl,rfl,by omega⟩
    · cases hm) hp0
   have e8:=hE1.trans e7
   refine hQ a' w' ⟨p',_,e8,⟨e2.size,fun x=>?_⟩,?_⟩
   · rw[je rfl]
     refine yo (by omega) (by rw[hmK,hmK0]) ?_ (e2.at_ x)
     have:=tb (f:=fun x=>lS (r2.length+1) i x.2) (fun _=>rfl) (x:=x) hcF (fun _ _=>rfl)
     rw[je rfl] at this
     exact this
   · obtain ⟨rs,g1,g2,g0,g3⟩:=e3
     refine ⟨rs,g1,g2,g0,fun q hq=>⟨(g3 q hq).1,?_,(g3 q hq).2.2⟩⟩
     -- a mark is kept: it is no block that is known
     intro d' i' v' B' hg' hB' hl' o' t' hm'
     obtain ⟨b2,o2,t2,k1,k2,_⟩:=e7.rel.live d' i' v' B' hg' hB'
     rw[hm'] at k1
     simp only[nP] at k1
     obtain ⟨rfl,_,_⟩:=k1
     have hq1:=(g3 q hq).1
     cases B' with
     | dead=>exact hB' rfl
     | row r=>obtain ⟨_,_,e,_⟩:=k2;rw[hq1] at e;simp at e
     | map es=>obtain ⟨_,_,e,_⟩:=k2;rw[hq1] at e;simp at e
     | fmap kq f g c=>obtain ⟨_,_,_,_,e,_⟩:=k2;rw[hq1] at e;simp at e
     | loop l=>obtain ⟨_,e,_⟩:=k2;rw[hq1] at e;simp at e

noncomputable def eI (cx:Cx) (S:bK) (L:bm) (fr:av) (H:aa):Option (av×aa) :=
 match mT cx S L fr H with
 | some x=>some x
 | none=>gS cx S L fr H
theorem uj {cx:Cx} {F:Fence} (hFW:cT F) (hN:cH cx.P) (hC:bR cx.P cx.call) (hX:c7 cx F) {S:bK} {L:bm} (hS:S.Ok cx.P L) (hL:L.Ok) {fr fr':av} {H H':aa} (h:eI cx S L fr H=some (fr',H')) :
 da cx.P F cx.ro cx.nt (S.code L) fr H .normal fr' H':=by
 unfold eI at h
 split at h
 · rename_i x e
   simp only[Option.some.injEq] at h
   subst h
   exact vo hFW hN hC hX hS hL e
 · exact zY hFW hN hC hX hS hL h
noncomputable def gx (cx:Cx) (S:bK) (L:bm) (suf:Code):List Code→av→aa→Option (Ex×av×aa)
 | [],fr,H=>match eI cx S L fr H with
   | some (fr,H)=>dh cx suf fr H
   | none=>none
 | c::r,fr,H=>match dh cx c fr H with
   | some (.normal,fr,H)=>gx cx S L suf r fr H
   | x=>x

theorem ud {cx:Cx} {F:Fence} (hFW:cT F) (hN:cH cx.P) (hC:bR cx.P cx.call) (hX:c7 cx F) {S:bK} {L:bm} {suf:Code} (hS:S.Ok cx.P L) (hL:L.Ok):∀ (pre:List Code) (fr:av) (H:aa) (e:Ex) (fr':av) (H':aa),
 gx cx S L suf pre fr H=some (e,fr',H')→da cx.P F cx.ro cx.nt (assemble pre (S.code L) suf) fr H e fr' H'
 | [],fr,H,e,fr',H',h=>by
   simp only[gx] at h
   cases hr:eI cx S L fr H with
   | none=>rw[hr] at h;simp at h
   | some q =>
     obtain ⟨fr1,H1⟩:=q
     rw[hr] at h
     dsimp only at h
     rw[dK] at h
     exact pb (uj hFW hN hC hX hS hL hr) (cB hFW hN hC hX _ _ _ _ _ _ h)
 | c :: r,fr,H,e,fr',H',h=>by
   simp only[gx] at h
   rw[dK] at h
   cases hx:exec cx c fr H with
   | none=>rw[hx] at h;simp at h
   | some q =>
     obtain ⟨e1,fr1,H1⟩:=q
     rw[hx] at h
     have h1:=cB hFW hN hC hX _ _ _ _ _ _ hx
     cases e1 with
     | normal=>exact pb h1 (ud hFW hN hC hX hS hL r fr1 H1 e fr' H' h)
     | _ =>
       simp only[nP] at h
       obtain ⟨rfl,rfl,rfl⟩:=h
       exact pc (by simp) h1

noncomputable def uh (P:Program) (KT:FuncId→Nat→Nat) (fu:Nat) (r:ql) (call:aU) (args:List AV) (H:aa):Option (AV×aa) :=
 match P.funcs[r.f]? with
 | none=>none
 | some fn=>if Nat.ble args.length fn.ntmps then
   match gx ⟨P,call,fu,r.f,fn.ntmps,KT r.f,none⟩ r.S r.L r.suf r.pre (dX 0 args) (⟨false,[]⟩::H) with
   | some (e,fr,l::H')=>(match e with
     | .normal | .ret=>match eS P fr (l::H') fn.results.toList with
       | some vs=>some (cX l.bs 5 (one vs),H')
       | none=>none
     | _=>none)
   | _=>none
   else none

theorem DV {P:Program} (hN:cH P) (hD:ir P) {r:ql} (hr:r.Ok P) (KT:FuncId→Nat→Nat) (fu:Nat) {call:aU} (hC:bR P call) {args:List AV} {H:aa} {v:AV} {H':aa} (h:uh P KT fu r call args H=some (v,H'))
 {p:aJ} {M:Mu} {w:World} {cargs:Array Value} (hH:a8 p M H w) (hA:gD p M args cargs):(∃ fn,P.funcs[r.f]?=some fn∧fn.body.isNone=false)∧CallsIn Fence.wide 0 P r.f cargs w (jT p M H w v H'):=by
 obtain ⟨⟨fn,hf,hb⟩,hS,hL⟩:=hr
 unfold uh at h
 rw[hf] at h
 dsimp only at h
 split at h
 · rename_i hle
   split at h
   · rename_i e fr l H1 he
     have hcode:=ud (cx:=⟨P,call,fu,r.f,fn.ntmps,KT r.f,none⟩) cT.wide hN hC (more hN hD hC _ _ rfl rfl cT.wide) hS hL _ _ _ _ _ _ he
     split at h
     · cases hv:eS P fr (l::H1) fn.results.toList with
       | none=>rw[hv] at h;simp at h
       | some vs =>
         rw[hv] at h
         simp only[nP] at h
         obtain ⟨rfl,rfl⟩:=h
         exact ⟨⟨fn,hf,by rw[hb];rfl⟩,iW hf hb (by simpa using hle) (.inl rfl) hv hcode hH hA⟩
     · cases hv:eS P fr (l::H1) fn.results.toList with
       | none=>rw[hv] at h;simp at h
       | some vs =>
         rw[hv] at h
         simp only[nP] at h
         obtain ⟨rfl,rfl⟩:=h
         exact ⟨⟨fn,hf,by rw[hb];rfl⟩,iW hf hb (by simpa using hle) (.inr rfl) hv hcode hH hA⟩
     · simp at h
   · simp at h
 · simp at h
end Go.Eng
end
