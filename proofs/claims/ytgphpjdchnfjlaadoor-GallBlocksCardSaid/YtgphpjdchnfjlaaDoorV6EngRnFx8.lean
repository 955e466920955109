/- The engine: loops over maps whose outcome, if they are run to their end, does not hang on the order. -/
import Derived.Test.YtgphpjdchnfjlaaDoorV6EngThx10
import Derived.Test.YtgphpjdchnfjlaaDoorV6EngTfx2
set_option linter.unusedVariables false
set_option linter.unusedSimpArgs false
section
namespace Go.Eng
open Go.ChangeMaps (setBlock)

theorem pM {L:bV} {cx:Cx} {k n:Nat} {R:ab}:∀ (a b:List (AV×AV)) (s:aA×bJ),fO L cx k n R (a++b) s=(fO L cx k n R a s).bind (fO L cx k n R b)
 | [],b,s=>rfl
 | kv::a,b,s=>by
   show (match fU L cx k n R kv s with | some t=>fO L cx k n R (a++b) t | none=>none)=(match fU L cx k n R kv s with | some t=>fO L cx k n R a t | none=>none).bind _;cases fU L cx k n R kv s with
   | none=>rfl
   | some t=>exact pM a b t
theorem Ep {L:bV} {cx:Cx} {k n:Nat} {R:ab} {kv:AV×AV} {s t:aA×bJ} (h:fU L cx k n R kv s=some t):bM t.1 L.it=.ptr 0 k 0 0:=by
 obtain ⟨R1,h⟩:=qM h;unfold bV.round at h;split at h
 · split at h
   · split at h
     · split at h
       · split at h
         · rename_i hp;simp only[nP] at h;rw[← h.1];exact pX hp
         · simp at h
       · simp at h
     · simp at h
   · simp at h
 · simp at h
theorem FL {L:bV} {cx:Cx} {k n:Nat} {R:ab} {s0:aA×bJ} (h0:bM s0.1 L.it=.ptr 0 k 0 0):∀ (l:List (AV×AV)) (s:aA×bJ),fO L cx k n R l s0=some s→bM s.1 L.it=.ptr 0 k 0 0:=by
 intro l;induction l generalizing s0 with
 | nil=>intro s h;simp only[fO,Option.some.injEq] at h;subst h;exact h0
 | cons kv l ih =>
   intro s h;simp only[fO] at h;cases hr:fU L cx k n R kv s0 with
   | none=>rw[hr] at h;simp at h
   | some t=>rw[hr] at h;exact ih (Ep hr) s h
theorem yb {vs:List Nat} {n:Nat} (hn:vs.Nodup) (hl:∀ j ∈ vs,j<n) (hin:∀ j,j<n→j ∈ vs):vs.length=n:=by
 have hp:vs.Perm (List.range n):=(List.perm_ext_iff_of_nodup hn List.nodup_range).2 (fun a=>by rw[List.mem_range];exact ⟨hl a,hin a⟩);have:=hp.length_eq;simpa using this
theorem DW {L:bV} {cx:Cx} {k n:Nat} {R:ab} {es:List (AV×AV)} {s0:aA×bJ} (hall:∀ vs:List Nat,vs.Nodup→vs.length=es.length→(∀ j ∈ vs,j<es.length)→∃ s,fO L cx k n R (vs.map fun j=>es.getD j (.undef,.undef)) s0=some s)
 {vs:List Nat} (hn:vs.Nodup) (hl:∀ j ∈ vs,j<es.length) {s:aA×bJ} (hf:fO L cx k n R (vs.map fun j=>es.getD j (.undef,.undef)) s0=some s) {j:Nat} (hj:j<es.length) (hjv:j ∉ vs) :
 ∃ t,fO L cx k n R ((vs++[j]).map fun j=>es.getD j (.undef,.undef)) s0=some t∧fU L cx k n R (es.getD j (.undef,.undef)) s=some t:=by
 let ws:=(vs++[j])++(List.range es.length).filter fun i=>!(vs++[j]).contains i
 have hnj:(vs++[j]).Nodup:=List.nodup_append.2 ⟨hn,by simp,fun x hx y hy e=>by
  rw[List.mem_singleton] at hy;subst hy;subst e;exact hjv hx⟩
 have hlj:∀ i ∈ vs++[j],i<es.length:=fun i hi=>by
  rcases List.mem_append.1 hi with h | h
  · exact hl i h
  · rw[List.mem_singleton] at h;rw[h];exact hj
 have hwn:ws.Nodup:=List.nodup_append.2 ⟨hnj,List.Nodup.sublist List.filter_sublist List.nodup_range,fun x hx y hy e=>by
  subst e;have:=(List.mem_filter.1 hy).2;simp only[Bool.not_eq_true',List.contains_eq_mem,decide_eq_false_iff_not] at this;exact this hx⟩
 have hwl:∀ i ∈ ws,i<es.length:=fun i hi=>by
  rcases List.mem_append.1 hi with h | h
  · exact hlj i h
  · exact List.mem_range.1 (List.mem_filter.1 h).1
 have hwi:∀ i,i<es.length→i ∈ ws:=fun i hi=>by
  by_cases e:i ∈ vs++[j]
  · exact List.mem_append.2 (.inl e)
  · exact List.mem_append.2 (.inr (List.mem_filter.2 ⟨List.mem_range.2 hi,by simpa using e⟩))
 obtain ⟨u,hu⟩:=hall ws hwn (yb hwn hwl hwi) hwl
 rw[List.map_append,pM] at hu
 cases ht:fO L cx k n R ((vs++[j]).map fun j=>es.getD j (.undef,.undef)) s0 with
 | none=>rw[ht] at hu;simp at hu
 | some t =>
   refine ⟨t,rfl,?_⟩
   rw[List.map_append,pM,hf] at ht
   simp only[Option.bind_some,List.map_cons,List.map_nil,fO] at ht
   cases hr:fU L cx k n R (es.getD j (.undef,.undef)) s with
   | none=>rw[hr] at ht;simp at ht
   | some t'=>rw[hr] at ht;exact ht

theorem Ea {cx:Cx} {F:Fence} (hFW:dJ F) (hN:dG cx.P) (hC:b9 cx.P cx.call) (hX:iE cx F) {L:bV} (hL:L.Ok) (hit:L.it<cx.nt)
 {k n:Nat} {es:List (AV×AV)} {s0:aA×bJ} {R:ab} {E:aA→ab→Prop} (hlk:∀ d,aL R d=true) (hk0:bM s0.1 L.it=.ptr 0 k 0 0)
 (hall:∀ vs:List Nat,vs.Nodup→vs.length=es.length→(∀ j ∈ vs,j<es.length)→∃ s fr' H',fO L cx k n R (vs.map fun j=>es.getD j (.undef,.undef)) s0=some s∧L.last cx s.1 (s.2::R)=some (fr',H')∧E fr' H')
 {p0:aF} {M0:Mu} {V:bJ} {Hb:ab} {w0:World} (hHb:Hb=V::R) (hH0:bj p0 M0 Hb w0) (hn:aZ Hb=n) (hne:Hb≠[]) (hRo:uo F cx.ro M0) {n0 b clock:Nat} {ces:Array MapEntry} (hkb:Go.Eng.bA M0 Hb b) (hb0:w0.heap[b]?=some (.map ces clock)) (hborn:jN ces clock) (hsz:ces.size=es.length)
 (hrel:∀ j,(h:j<ces.size)→al p0 M0 (es.getD j (.undef,.undef)).1 ces[j].key∧al p0 M0 (es.getD j (.undef,.undef)).2 ces[j].val)
 {r:Nat} (hr0:w0.heap.size≤r) {p:aF} {M:Mu} {fr:aA} {l0:bJ} {a:Act} {w:World} (hE:cC p0 M0 Hb w0 p M (l0::R) w) (hF:bX p M cx.nt fr a) (hM:Marks n0 M (l0::R) w a.defers) (hx:(fr,l0)=s0) (hr:w.heap[r]?=some (.mapIter (some b) clock #[] clock))
 (ha:a.tmps.getD L.it Go.undef=.pointer (some ⟨r,0,none⟩)) {Q:Exit→Act→World→Prop} (hQ:∀ fr' H',E fr' H'→∀ a' w',Hl n0 p0 M0 Hb w0 cx.nt fr' H' a' w'→Q .normal a' w'):L.code.wpIn F 0 cx.P Q a w:=by
 have hbl:b<w0.heap.size:=(Array.getElem?_eq_some_iff.1 hb0).1
 have hnod:(ces.toList.map (·.born)).Nodup:=by
  refine List.pairwise_iff_getElem.2 fun i i' hi hi' hlt e=>?_;simp only[List.length_map,Array.length_toList] at hi hi';have:=hborn.2 i i' hi hi' (by simpa using e);omega
 have slot:∀ {p:aF} {M:Mu} {fr:aA} {a:Act},bX p M cx.nt fr a→bM fr L.it=.ptr 0 k 0 0→a.tmps.getD L.it Go.undef=.pointer (some ⟨r,0,none⟩)→∃ t,M 0 k 0=some (r,0,t):=by
  intro p M fr a hF hk he;have:=hF.at_ L.it;rw[hk,he] at this;generalize hz:(Value.pointer (some ⟨r,0,none⟩))=z at this;cases this;rename_i b' o' t' hm;simp only[Value.pointer.injEq,Option.some.injEq,Addr.mk.injEq] at hz;obtain ⟨rfl,hz,_⟩:=hz;obtain rfl:o'=0:=by omega
  exact ⟨t',hm⟩
 have slot':∀ {p:aF} {M:Mu} {fr:aA} {a:Act} {t:Nat},bX p M cx.nt fr a→bM fr L.it=.ptr 0 k 0 0→M 0 k 0=some (r,0,t)→a.tmps.getD L.it Go.undef=.pointer (some ⟨r,0,none⟩):=by
  intro p M fr a t hF hk hm;have:=hF.at_ L.it;rw[hk] at this;generalize a.tmps.getD L.it Go.undef=z at this;cases this;rename_i b' o' t' hm';rw[hm] at hm';simp only[nP] at hm';obtain ⟨rfl,rfl,_⟩:=hm';rfl
 refine wpIn_block (wpIn_loop (fun a w=>∃ p M fr l seen,cC p0 M0 Hb w0 p M (l::R) w∧bX p M cx.nt fr a∧Marks n0 M (l::R) w a.defers∧(∃ vs:List Nat,vs.Nodup∧(∀ j ∈ vs,j<es.length)∧fO L cx k n R (vs.map fun j=>es.getD j (.undef,.undef)) s0=some (fr,l)∧∀ j,(h:j<ces.size)→(seen.contains (ces[j]).born=true↔j ∈ vs))∧w.heap[r]?=some (.mapIter (some b) clock seen clock) ∧
  a.tmps.getD L.it Go.undef=.pointer (some ⟨r,0,none⟩)) (fun _ w=>(leftOf ces (tG r w)).size) ?_ ?_)
 · refine ⟨p,M,fr,l0,#[],hE,hF,hM,⟨[],List.nodup_nil,?_,?_,?_⟩,hr,ha⟩
   · intro j hj;cases hj
   · rw[hx];rfl
   · intro j h
     constructor
     · intro hc;simp at hc
     · intro hc;cases hc
 rintro a w ⟨p,M,fr,l,seen,hE,hF,hM,⟨vs,hvn,hvl,hvf,hvs⟩,hr,ha⟩
 have hXk:bM fr L.it=.ptr 0 k 0 0:=FL hk0 _ _ hvf
 obtain ⟨H,hHl⟩:∃ H,H=l::R:=⟨_,rfl⟩
 rw[← hHl] at hE hM
 have hseen:tG r w=seen:=by unfold tG;rw[hr]
 have hbw:w.heap[b]?=some (.map ces clock):=by rw[hE.stay.block b hbl hkb];exact hb0
 have hwant:∀ (o:Oper),o.guard=none→∀ y,Region.wanted o y=true:=fun o hg y=>by unfold Region.wanted;rw[hg]
 have hev:a.eval (.tmp L.it)=.pointer (some ⟨r,0,none⟩):=ha
 refine wpIn_seq (wpIn_region_list ?_)
 rw[hL.l1]
 unfold wpListIn
 rw[if_pos (hwant _ hL.g1 _)]
 rcases run_next_at (P:=cx.P) w L.no.type r b clock clock seen ces clock hr hbw (fun x hx=>by
  obtain ⟨i,hi,rfl⟩:=List.getElem_of_mem hx;have:=hborn.1 i (by simpa using hi);simpa using this) (Nat.le_refl _) with ⟨hz,hrun⟩ | ⟨e,he,w1,hw1,hrun⟩
 ·
   refine wW hFW (by rw[hL.o1];intro c h;cases h) (cv:=.tuple #[.bool false]) (w':=w) (by simp only[execOp,hL.o1,hev];simp[Sem.run_bind,hrun,Result.andThen]) ?_
   have hin:∀ j,j<es.length→j ∈ vs:=fun j hjl=>by
    have hj:j<ces.size:=by rw[hsz];exact hjl
    refine (hvs j hj).1 (Classical.byContradiction fun hc=>?_);have hc':seen.contains (ces[j]).born=false:=by simpa using hc
    have:ces[j] ∈ leftOf ces seen:=by
     unfold leftOf;rw[Array.mem_filter];exact ⟨Array.getElem_mem hj,by rw[hc'];rfl⟩
    have:=Array.size_pos_of_mem this;omega
   obtain ⟨s,frX,HX,hs1,hl,hEX⟩:=hall vs hvn (yb hvn hvl hin) hvl
   rw[hvf] at hs1
   simp only[Option.some.injEq] at hs1
   rw[← hs1] at hl
   dsimp only at hl
   rw[← hHl] at hl
   unfold bV.last at hl
   rw[fo] at hl
   cases hro:eV cx.P cx.nt cx.call L.ops1 L.t1 (iu cx.nt fr (some L.nx) (.tup [.bool false])) H with
   | none=>rw[hro] at hl;simp at hl
   | some q =>
     obtain ⟨frE,HE⟩:=q
     rw[hro] at hl
     dsimp only at hl
     split at hl
     · rename_i hb
       simp only[nP] at hl
       obtain ⟨rfl,rfl⟩:=hl
       have hput:=hF.put (some L.nx) (v:=.tup [.bool false]) (c:=.tuple #[.bool false]) (.tup rfl (fun j hj=>by
        obtain rfl:j=0:=by simpa using hj
        exact .bool _))
       rw[hL.d1]
       refine gm hFW hN hC _ _ _ _ _ hro p M _ w hput hE.rel (hE.ne hne) (fun a2 w2 ⟨p2,M2,hE2,hF2,hd2⟩=>?_)
       refine wpIn_seq ?_
       have hmo:=hF2.at_ L.mo
       rw[F3 hb] at hmo
       have hc:a2.eval (.tmp L.mo)=.bool false:=by
        show a2.tmps.getD L.mo Go.undef=_;generalize a2.tmps.getD L.mo Go.undef=z at hmo;cases hmo;rfl
       refine wpIn_cond_false hc (wpIn_exit ?_)
       show Exit.inBlock L.out Q (.exit L.out) a2 w2
       simp only[Exit.inBlock,if_true]
       refine hQ _ _ hEX a2 w2 ⟨p2,M2,hE.trans hE2,hF2,?_⟩
       rw[hd2,put_defers]
       exact hM.xB hE2
     · simp at hl
 ·
   have hemem:e ∈ ces.toList:=by
    unfold leftOf at he;simp at he;simpa using he.1
   obtain ⟨j,hj,hje⟩:=List.getElem_of_mem hemem
   have hj':j<ces.size:=by simpa using hj
   have hje':ces[j]=e:=by simpa using hje
   have hjl:j<es.length:=by rw[← hsz];exact hj'
   have hjv:j ∉ vs:=fun hc=>by
    have h1:=(hvs j hj').2 hc;rw[hje'] at h1;unfold leftOf at he;simp only[Array.toList_filter,List.mem_filter,Bool.not_eq_true'] at he;rw[h1] at he;exact absurd he.2 (by decide)
   obtain ⟨⟨Qr,lN⟩,hfN,hstep⟩:=DW (fun ws h1 h2 h3=>by obtain ⟨s,_,_,h4,_⟩:=hall ws h1 h2 h3;exact ⟨s,h4⟩) hvn hvl hvf hjl hjv
   obtain ⟨RN,hround⟩:=qM hstep
   dsimp only at hround
   have hround':=hround
   rw[← hHl] at hround'
   unfold bV.round at hround'
   simp only[fo,fK] at hround'
   obtain ⟨hkey,hval⟩:=hrel j hj'
   rw[hje'] at hkey hval
   have hE1:cC p0 M0 Hb w0 p M H w1∧Marks n0 M H w1 a.defers∧w1.heap[r]?=some (.mapIter (some b) clock seen clock):=by
    rcases hw1 with rfl | rfl
    · exact ⟨hE,hM,hr⟩
    · exact ⟨hE.drew,hM.drew,hr⟩
   obtain ⟨hE1,hM1,hr1⟩:=hE1
   have hE2:=hE1.Ml hr1 hr0 (.mapIter (some b) clock (seen.push e.born) clock)
   have hM2:=hM1.Ml hr1 (.mapIter (some b) clock (seen.push e.born) clock)
   have hr2:(setBlock w1 r (.mapIter (some b) clock (seen.push e.born) clock)).heap[r]?=some (.mapIter (some b) clock (seen.push e.born) clock):=by
    have hlt:r<w1.heap.size:=(Array.getElem?_eq_some_iff.1 hr1).1;simp[setBlock,hlt]
   generalize setBlock w1 r (.mapIter (some b) clock (seen.push e.born) clock)=w2 at hrun hE2 hM2 hr2
   refine wW hFW (by rw[hL.o1];intro c h;cases h) (cv:=.tuple #[.bool true,e.key,e.val]) (w':=w2) (by simp only[execOp,hL.o1,hev];simp[Sem.run_bind,hrun,Result.andThen]) ?_
   rw[hL.d1]
   have hput:=hF.put (some L.nx) (v:=.tup [.bool true,(es.getD j (.undef,.undef)).1,(es.getD j (.undef,.undef)).2]) (c:=.tuple #[.bool true,e.key,e.val]) (.tup rfl (fun i hi=>by
    match i,hi with
    | 0,_=>exact .bool _
    | 1,_=>exact hkey.mono hE2.pst hE2.mu
    | 2,_=>exact hval.mono hE2.pst hE2.mu))
   cases hro:eV cx.P cx.nt cx.call L.ops1 L.t1 (iu cx.nt fr (some L.nx) (.tup [.bool true,(es.getD j (.undef,.undef)).1,(es.getD j (.undef,.undef)).2])) H with
   | none=>rw[hro] at hround';simp at hround'
   | some q =>
     obtain ⟨frA,HA⟩:=q
     rw[hro] at hround'
     dsimp only at hround'
     split at hround'
     · rename_i hcA
       simp only[Bool.and_eq_true] at hcA
       obtain ⟨hcA1,hcA2⟩:=hcA
       obtain ⟨t,hmk⟩:=slot hF hXk ha
       refine gm hFW hN hC _ _ _ _ _ hro p M _ w2 hput hE2.rel (hE2.ne hne) (fun a3 w3 ⟨p3,M3,hE3,hF3,hd3⟩=>?_)
       refine wpIn_seq ?_
       have hmo:=hF3.at_ L.mo
       rw[F3 hcA1] at hmo
       have hc:a3.eval (.tmp L.mo)=.bool true:=by
        show a3.tmps.getD L.mo Go.undef=_;generalize a3.tmps.getD L.mo Go.undef=z at hmo;cases hmo;rfl
       refine wpIn_cond_true hc (wpIn_skip ?_)
       show Code.wpIn F 0 cx.P _ _ a3 w3
       have hmk3:=hE3.mu _ _ _ _ hmk
       have ha3:=slot' hF3 (pX hcA2) hmk3
       have hr3:w3.heap[r]?=some (.mapIter (some b) clock (seen.push e.born) clock):=by
        rw[hE3.stay.block r (Array.getElem?_eq_some_iff.1 hr2).1 (fun d i v B hg hB _ o t=>sL hE2.rel hr2 hg hB o t)];exact hr2
       have hE03:=hE2.trans hE3
       have hbw3:w3.heap[b]?=some (.map ces clock):=by rw[hE03.stay.block b hbl hkb];exact hb0
       have hM3:Marks n0 M3 HA w3 a3.defers:=by rw[hd3,put_defers];exact hM2.xB hE3
       refine wpIn_block (wpIn_seq (wpIn_region_list ?_))
       rw[hL.l2]
       unfold wpListIn
       rw[if_pos (hwant _ hL.g2 _)]
       have hrunE:=run_entry_at (P:=cx.P) w3 r b clock seen ces clock e hr3 hbw3 hemem hnod
       have hev3:a3.eval (.tmp L.it)=.pointer (some ⟨r,0,none⟩):=ha3
       refine wW hFW (by rw[hL.o2];intro c h;cases h) (cv:=.tuple #[e.key,e.val]) (w':=w3) (by simp only[execOp,hL.o2,hev3];simp[Sem.run_bind,hrunE,Result.andThen]) ?_
       rw[hL.d2]
       have hput3:=hF3.put (some L.en) (v:=.tup [(es.getD j (.undef,.undef)).1,(es.getD j (.undef,.undef)).2]) (c:=.tuple #[e.key,e.val]) (.tup rfl (fun i hi=>by
        match i,hi with
        | 0,_=>exact hkey.mono hE03.pst hE03.mu
        | 1,_=>exact hval.mono hE03.pst hE03.mu))
       cases hro2:eV cx.P cx.nt cx.call L.ops2 L.t2 (iu cx.nt frA (some L.en) (.tup [(es.getD j (.undef,.undef)).1,(es.getD j (.undef,.undef)).2])) HA with
       | none=>rw[hro2] at hround';simp at hround'
       | some q2 =>
         obtain ⟨frB,HB⟩:=q2
         rw[hro2] at hround'
         dsimp only at hround'
         refine gm hFW hN hC _ _ _ _ _ hro2 p3 M3 _ w3 hput3 hE3.rel (hE03.ne hne) (fun a4 w4 ⟨p4,M4,hE4,hF4,hd4⟩=>?_)
         show Code.wpIn F 0 cx.P _ _ a4 w4
         have hE04:=hE03.trans hE4
         have hM4:Marks n0 M4 HB w4 a4.defers:=by rw[hd4,put_defers];exact hM3.xB hE4
         split at hround'
         · rename_i frC HC hex
           split at hround'
           · rename_i hptC
             simp only[nP] at hround'
             obtain ⟨rfl,hcut⟩:=hround'
             refine cV hFW hN hC hX _ _ _ _ _ _ hex n0 p4 M4 a4 w4 _ hF4 hE4.rel (hE04.ne hne) (hRo.mono hE04.mu) hM4 (fun a5 w5 ⟨p5,M5,hE5,hF5,hM5⟩=>?_)
             show Exit.inBlock L.nxt _ .normal a5 w5
             simp only[Exit.inBlock,Exit.then]
             have hE05:=hE04.trans hE5
             have hE35:=hE4.trans hE5
             have hF5':=hF5.kill L.km
             have hmk5:=hE35.mu _ _ _ _ hmk3
             have ha5:=slot' hF5' (pX hptC) hmk5
             have hr5:w5.heap[r]?=some (.mapIter (some b) clock (seen.push e.born) clock):=by
              rw[hE35.stay.block r (Array.getElem?_eq_some_iff.1 hr3).1 (fun d i v B hg hB _ o t=>sL hE3.rel hr3 hg hB o t)];exact hr3
             obtain ⟨M6,hE6,hF6,hM6⟩:=ri hE05 hF5' hM5 (fun d i v t hm=>(hH0.dom d i v t hm).1)
             rw[hn,hcut] at hE6 hM6
             have hRN:RN=R:=by
              have hdR:∀ d,aL Hb (d+1)=true:=fun d=>by rw[hHb];exact hlk d
              refine sB _ _ (by have:=hE6.len;rw[hHb] at this;simpa using this) (fun d i=>?_) (fun d=>?_) (fun d=>?_)
              · have:=hE6.same (d+1) i wO (hdR d);rw[hHb] at this;exact this
              · have:=hE6.next (d+1) wO (hdR d);rw[hHb] at this;exact this
              · have:=hE6.lock (d+1);rw[hHb] at this;exact this
             rw[hRN] at hE6 hM6
             refine ⟨⟨p5,M6,_,_,seen.push e.born,hE6,hF6,hM6,⟨vs++[j],?_,?_,hfN,fun i hi=>?_⟩,hr5,ha5⟩,?_⟩
             · exact List.nodup_append.2 ⟨hvn,by simp,fun x hx y hy e=>by
                rw[List.mem_singleton] at hy;subst hy;subst e;exact hjv hx⟩
             · intro i hi
               rcases List.mem_append.1 hi with h | h
               · exact hvl i h
               · rw[List.mem_singleton] at h;rw[h];exact hjl
             · rw[Array.contains_push,Bool.or_eq_true,hvs i hi,List.mem_append,List.mem_singleton,beq_iff_eq]
               constructor
               · rintro (h | h)
                 · exact .inl h
                 · exact .inr (hborn.2 i j hi hj' (by rw[hje'];first | exact h | exact h.symm))
               · rintro (h | h)
                 · exact .inl h
                 · subst h;rw[hje'];exact .inr rfl
             · have hs5:tG r w5=seen.push e.born:=by unfold tG;rw[hr5]
               rw[hs5,hseen]
               exact D9 he
           · simp at hround'
         · simp at hround'
     · simp at hround'
end Go.Eng
end
section
namespace Go.Eng

end Go.Eng
end
section
namespace Go.Eng

def BV (cx:Cx) (L:bV) (suf:Code) (d k:Nat) (r1 R:ab) (s0:aA×bJ) (q:KK) (h:List Int→Bool) (g:List Int→Int) (c:Nat) (n0:Nat) (y:Ex×ab):Prop :=
 bM s0.1 L.it=.ptr 0 k 0 0∧∀ es,re q es h g c→∀ vs:List Nat,vs.Nodup→vs.length=es.length→(∀ j ∈ vs,j<es.length) →
  ∃ s frE lE,fO L cx k (k+1) R (vs.map fun j=>(es.map fun e=>(nr (d+1) e.1,nr (d+1) e.2)).getD j (.undef,.undef)) s0=some s∧L.last cx s.1 (s.2::R)=some (frE,lE::R)∧∃ frY HY,oM cx suf frE (lE::r1)=some (y.1,frY,HY)∧lJ n0 [] HY=y.2
noncomputable def j9 (cx:Cx) (S:eC) (L:bV) (suf:Code) (fr:aA) (H:ab):Option (Ex×aA×ab) :=
 match kT cx.P cx.nt cx.call S.ops0 S.pre fr H with
 | some (fr1,l1::r1)=>match bM fr1 S.m with
   | .map (d+1) i=>match az (l1::r1) (d+1) i with
     | (0,.fmap q h g c) =>
       if l1.lock then none else
       @dite _ (∃ y,BV cx L suf d (aZ (l1::r1)) r1 (bF r1) (iu cx.nt fr1 (some L.it) (.ptr 0 (aZ (l1::r1)) 0 0),{ l1 with bs:=l1.bs++[(0,.dead)] }) q h g c (aZ H) y) (Classical.propDecidable _)
        (fun hx=>some ((Classical.choose hx).1,[],(Classical.choose hx).2)) (fun _=>none)
     | _=>none
   | _=>none
 | _=>none

theorem yZ {cx:Cx} {F:Fence} (hFW:dJ F) (hN:dG cx.P) (hC:b9 cx.P cx.call) (hX:iE cx F) {S:eC} {L:bV} {suf:Code} (hS:S.Ok cx.P L) (hL:L.Ok) {fr fr':aA} {H H':ab} {e0:Ex} (h:j9 cx S L suf fr H=some (e0,fr',H')) :
 dQ cx.P F cx.ro cx.nt (.seq (S.code L) suf) fr H e0 fr' H':=by
 intro n0 p M a w Q hF hH hne hR hM hQ
 unfold j9 at h
 rw[fo] at h
 split at h
 case h_2=>simp at h
 rename_i fr1 l1 r1 hro
 split at h
 case h_2=>simp at h
 rename_i d i hmap
 split at h
 case h_2=>simp at h
 rename_i q hh gg cc hg
 split at h
 · simp at h
 rename_i hl0
 simp only[Bool.not_eq_true] at hl0
 split at h
 case isFalse=>simp at h
 rename_i hx
 obtain ⟨hk0,hends⟩:=Classical.choose_spec hx
 generalize Classical.choose hx=Y at h hends
 obtain ⟨e1,H1⟩:=Y
 simp only[nP] at h
 obtain ⟨rfl,rfl,rfl⟩:=h
 refine wpIn_seq (wpIn_seq (wpIn_region_list ?_))
 rw[hS.l0]
 refine mi hFW hN hC _ _ _ _ _ hro p M a w hF hH hne (fun a1 w1 ⟨p1,M1,hE1,hF1,hd1⟩=>?_)
 unfold wpListIn
 rw[if_pos (by unfold Region.wanted;rw[hS.g0])]
 have hvm:=hF1.at_ S.m
 rw[hmap] at hvm
 obtain ⟨b,o,tt,hmu,hev⟩:∃ b o t,M1 (d+1) i 0=some (b,o,t)∧a1.tmps.getD S.m Go.undef=.map (some b):=by
  generalize a1.tmps.getD S.m Go.undef=z at hvm;cases hvm;rename_i b o t hm;exact ⟨b,o,t,hm,rfl⟩
 obtain ⟨es,hEs,ces,clock,hb,hsz,hborn,hrel⟩:=oO hE1.rel hg hmu
 have hev':a1.eval (.tmp S.m)=.map (some b):=hev
 obtain ⟨kt,et,hu⟩:=hS.t0
 have hrun:=_root_.Go.run_range_map (P:=cx.P) w1 S.ty kt et b ces clock hu hb
 refine wW hFW (by rw[hS.o0];intro c h;cases h) (cv:=.pointer (some ⟨w1.heap.size,0,none⟩)) (w':=w1.alloc (.mapIter (some b) clock #[] clock)) (by simp only[execOp,hS.o0,hev'];simp[Sem.run_bind,hrun,Result.andThen]) ?_
 unfold wpListIn
 rw[hS.d0]
 obtain ⟨R,hRd⟩:∃ R,R=bF r1:=⟨_,rfl⟩
 obtain ⟨V,hlbd⟩:∃ V,V=({ l1 with bs:=l1.bs++[(0,.dead)] }:bJ):=⟨_,rfl⟩
 rw[← hlbd,← hRd] at hends
 have hH3:bj p1 M1 (di (l1::r1)) w1:=hE1.rel.same (fS _) (fa _)
 have hne3:di (l1::r1)≠[]:=by simp[di]
 have hEp:=cC.pad hH3 hne3 1 (dx.refl _ _)
 have hpad:nH (di (l1::r1)) 1=V::R:=by rw[hlbd,hRd];rfl
 rw[hpad] at hEp
 have hRl:∀ d,aL R d=true:=fun d=>by rw[hRd];exact cq _ _
 have hnx:aZ (di (l1::r1))=aZ (l1::r1):=by
  rw[← bm,fa,bm]
 have hnb:aZ (V::R)=aZ (l1::r1)+1:=by
  rw[← hpad,← bm,jY _ hne3,if_pos rfl,hnx]
 have hdead:(az (V::R) 0 (aZ (l1::r1))).2=.dead:=by
  rw[← hpad,iM];exact Classical.byContradiction fun hn=>by
   have:=kC hn;rw[fa,bm] at this;omega
 have hlb:aL (V::R) 0=false:=by rw[hlbd];exact hl0
 have hno:∀ v,M1 0 (aZ (l1::r1)) v=none:=fun v=>by
  cases hx:M1 0 (aZ (l1::r1)) v with
  | none=>rfl
  | some u =>
    have:=(hE1.rel.dom _ _ _ _ hx).1;rw[bm] at this;omega
 have hEn:=cC.name hEp.rel hdead (by rw[bm,hnb];omega) hno hlb (.mapIter (some b) clock #[] clock)
 have hkb:Go.Eng.bA M1 (V::R) b:=by
  intro d' i' v' B' hg' hB' hl' o' t' hm';cases d' with
  | succ d' =>
    rw[show aL (V::R) (d'+1)=aL R d' from rfl,hRl] at hl';cases hl'
  | zero =>
    rw[← hpad,iM,fS] at hg';have:=(hE1.rel.apart 0 i' v' B' (d+1) i 0 (.fmap q hh gg cc) b o' t' o tt hg' hB' hg (by simp) hm' hmu).1;omega
 have hF2:=(hF1.mono hEn.pst hEn.mu).put (some L.it) (v:=.ptr 0 (aZ (l1::r1)) 0 0) (c:=.pointer (some ⟨w1.heap.size,0,none⟩)) (.ptr (o:=0) (t:=0) (by simp[br]))
 have hM2:Marks n0 (br M1 0 (aZ (l1::r1)) 0 (w1.heap.size,0,0)) (V::R) (w1.alloc (.mapIter (some b) clock #[] clock)) (a1.put (some L.it) (.pointer (some ⟨w1.heap.size,0,none⟩))).defers:=by
  rw[put_defers,hd1];have m1:=hM.xB hE1;have m3:Marks n0 M1 (di (l1::r1)) w1 a.defers:=by
   obtain ⟨rs,g1,g2,g0,g3⟩:=m1;refine ⟨rs,g1,g2,g0,fun q hq=>⟨(g3 q hq).1,fun d' i' v' B' hg' hB' hl' o' t'=>?_,(g3 q hq).2.2⟩⟩;rw[fS] at hg';cases d' with
   | zero=>exact (g3 q hq).2.1 0 i' v' B' hg' hB' hl0 o' t'
   | succ d' =>
     have:aL (bF r1) d'=true:=cq _ _;have h7:aL (di (l1::r1)) (d'+1)=aL (bF r1) d':=rfl;rw[h7,this] at hl';cases hl'
  exact (m3.xB hEp).xB hEn
 have hR2:uo F cx.ro M1:=hR.mono hE1.mu
 have hkvs:(es.map fun e=>(nr (d+1) e.1,nr (d+1) e.2)).length=es.length:=by simp
 have hit:L.it<cx.nt:=by
  refine Nat.lt_of_not_le fun hle=>?_;have h8:=hF2.at_ L.it;rw[hk0] at h8;have:(a1.put (some L.it) (.pointer (some ⟨w1.heap.size,0,none⟩))).tmps.getD L.it Go.undef=Go.undef:=by
   have hs:=hF2.size;rw[Array.getD_eq_getD_getElem?,Array.getElem?_eq_none wO];rfl
  rw[this] at h8;cases h8
 have hslot:(a1.put (some L.it) (.pointer (some ⟨w1.heap.size,0,none⟩))).tmps.getD L.it Go.undef=.pointer (some ⟨w1.heap.size,0,none⟩):=by
  have hs:=hF1.size;simp[Act.put,hs,hit]
 refine Ea hFW hN hC hX hL hit (k:=aZ (l1::r1)) (n:=aZ (l1::r1)+1) (es:=es.map fun e=>(nr (d+1) e.1,nr (d+1) e.2)) (s0:=(iu cx.nt fr1 (some L.it) (.ptr 0 (aZ (l1::r1)) 0 0),V)) (R:=R) hRl hk0 (E:=fun x y=>∃ lE,y=lE::R∧∃ frY HY,oM cx suf x (lE::r1)=some (e1,frY,HY)∧lJ (aZ H) [] HY=H1) (fun vs v1 v2 v3=>by
  obtain ⟨s,frE,lE,h1,h2,h3⟩:=hends es hEs vs v1 (by rw[v2,hkvs]) (fun j hj=>by rw[← hkvs];exact v3 j hj);exact ⟨s,frE,lE::R,h1,h2,lE,rfl,h3⟩) rfl hEp.rel hnb (by simp) hR2 hkb hb hborn (by rw[hkvs];exact hsz) ?_ (Nat.le_refl _) hEn hF2 hM2 rfl (World.alloc_heap_new _ _) hslot (fun frE HE hEE a' w' hnow=>?_)
 · intro j hj
   have hj2:j<es.length:=by rw[← hsz];exact hj
   have:=hrel j hj
   have e1:(es.map fun e=>(nr (d+1) e.1,nr (d+1) e.2)).getD j (.undef,.undef)=(nr (d+1) (es.getD j (.undef,.undef)).1,nr (d+1) (es.getD j (.undef,.undef)).2):=by
    simp[List.getD_eq_getElem?_getD,List.getElem?_eq_getElem hj2]
   rw[e1]
   exact ⟨this.1.up,this.2.up⟩
 · obtain ⟨lE,rfl,frY,HY,hsuf,hcut⟩:=hEE
   obtain ⟨p',M',e1,e2,e3⟩:=hnow
   have e4:cC p1 M1 (di (l1::r1)) w1 p' M' (lE::R) w':=hEp.trans e1
   rw[hRd] at e4 e3
   have e5:=cC.unlock hE1.rel hl0 e4
   have e7:=hE1.trans e5
   have hMk:Marks n0 M' (lE::r1) w' a'.defers:=?_
   · rw[fK] at hsuf
     refine cV hFW hN hC hX _ _ _ _ _ _ hsuf n0 p' M' a' w' _ e2 e7.rel (e7.ne hne) (hR.mono e7.mu) hMk (fun a2 w2 ⟨p2,M2,f1,f2,f3⟩=>by
      have f0:bX p2 M2 cx.nt [] a2:=⟨f2.size,fun y=>.undef _⟩
      obtain ⟨M3,c1,c2,c3⟩:=ri (e7.trans f1) f0 f3 (fun d i v t hm=>(hH.dom d i v t hm).1);rw[hcut] at c1 c3;exact hQ a2 w2 ⟨p2,M3,c1,c2,c3⟩)
   obtain ⟨rs,g1,g2,g0,g3⟩:=e3
   refine ⟨rs,g1,g2,g0,fun q hq=>⟨(g3 q hq).1,?_,(g3 q hq).2.2⟩⟩
   intro d' i' v' B' hg' hB' hl' o' t' hm'
   obtain ⟨b2,o2,t2,k1,k2,_⟩:=e7.rel.live d' i' v' B' hg' hB'
   rw[hm'] at k1
   simp only[nP] at k1
   obtain ⟨rfl,_,_⟩:=k1
   have hq1:=(g3 q hq).1
   cases B' with
   | dead=>exact hB' rfl
   | row r=>obtain ⟨_,_,e,_⟩:=k2;rw[hq1] at e;simp at e
   | map es=>obtain ⟨_,_,e,_⟩:=k2;rw[hq1] at e;simp at e
   | fmap kq f g c=>obtain ⟨_,_,_,_,e,_⟩:=k2;rw[hq1] at e;simp at e
   | loop l=>obtain ⟨_,e,_⟩:=k2;rw[hq1] at e;simp at e
end Go.Eng
end
section
namespace Go.Eng
noncomputable def kO (cx:Cx) (S:eC) (L:bV) (suf:Code):List Code→aA→ab→Option (Ex×aA×ab)
 | [],fr,H=>j9 cx S L suf fr H
 | c::r,fr,H=>match oM cx c fr H with
   | some (.normal,fr,H)=>kO cx S L suf r fr H
   | x=>x
theorem tn {cx:Cx} {F:Fence} (hFW:dJ F) (hN:dG cx.P) (hC:b9 cx.P cx.call) (hX:iE cx F) {S:eC} {L:bV} {suf:Code} (hS:S.Ok cx.P L) (hL:L.Ok):∀ (pre:List Code) (fr:aA) (H:ab) (e:Ex) (fr':aA) (H':ab),
 kO cx S L suf pre fr H=some (e,fr',H')→dQ cx.P F cx.ro cx.nt (assemble pre (S.code L) suf) fr H e fr' H'
 | [],fr,H,e,fr',H',h=>yZ hFW hN hC hX hS hL h
 | c :: r,fr,H,e,fr',H',h=>by
   simp only[kO] at h;rw[fK] at h;cases hx:exec cx c fr H with
   | none=>rw[hx] at h;simp at h
   | some q =>
     obtain ⟨e1,fr1,H1⟩:=q;rw[hx] at h;have h1:=cV hFW hN hC hX _ _ _ _ _ _ hx;cases e1 with
     | normal=>exact Fv h1 (tn hFW hN hC hX hS hL r fr1 H1 e fr' H' h)
     | _ =>
       simp only[nP] at h;obtain ⟨rfl,rfl,rfl⟩:=h;exact wb (by simp) h1
def KU (id:Nat):Ex→Ex
 | .exit id'=>if Nat.beq id' id then .normal else .exit id'
 | e=>e
theorem AO {cx:Cx} {F:Fence} {id:Nat} {b:Code} {fr fr':aA} {H H':ab} {e:Ex} (h:dQ cx.P F cx.ro cx.nt b fr H e fr' H'):dQ cx.P F cx.ro cx.nt (.block id b) fr H (KU id e) fr' H' :=
 fun n0 p M a w Q hF hH hne hR hM hQ=>wpIn_block (h n0 p M a w _ hF hH hne hR hM (fun a1 w1 hn=>by
  have:=hQ a1 w1 hn;cases e with
  | exit id' =>
    simp only[KU] at this;simp only[Na,Exit.inBlock];split at this
    · rename_i uE;rw[if_pos (by simpa using uE)];exact this
    · rename_i uE;rw[if_neg (by simpa using uE)];exact this
  | _=>exact this))
structure pD where
 f:FuncId
 id:Nat
 body:Code
 pre:List Code
 S:eC
 L:bV
 suf:Code
structure pD.Ok (r:pD) (P:Program):Prop where
 body:r.body=.block r.id (assemble r.pre (r.S.code r.L) r.suf)
 S:r.S.Ok P r.L
 L:r.L.Ok
noncomputable def oa (P:Program) (KT:FuncId→Nat→Nat) (fu:Nat) (r:pD) (call:aK) (d i:Nat) (args:List AV) (H:ab):Option (AV×ab) :=
 match az H d i with
 | (0,.loop l)  =>
   @dite _ (l.fn=r.f∧l.body=r.body) (Classical.propDecidable _) (fun _ =>
    if aL H d then none else
    match l.state with
    | .ready => match me l.nt (nq (d+1) l.fr) l.params (args.map (nr 1)) with
      | some fr => match exec ⟨P,call,fu,l.fn,l.nt,KT l.fn,some (d+1,i)⟩ l.assign fr (⟨false,[]⟩::H) with
        | some (.normal,fr,H1)=>match az H1 (d+1) i with
          | (0, .loop l1)=>match l1.state with
            | .ready =>
              match kO ⟨P,call,fu,l.fn,l.nt,KT l.fn,some (d+1,i)⟩ r.S r.L r.suf r.pre fr (eh H1 (d+1) i (0,.loop { l1 with state:=.busy })) with
              | some (e,_,_::H2)=>match az H2 d i with
                | (0,.loop l2)=>some (.bool (dv (KU r.id e)).isNone,eh H2 d i (0,.loop { l2 with state:=if (dv (KU r.id e)).isNone then .ready else .done,pending:=dv (KU r.id e) }))
                | _=>none
              | _=>none
            | _=>none
          | _=>none
        | _=>none
      | none=>none
    | _=>none) (fun _=>call (.round d i) args H)
 | _=>call (.round d i) args H
noncomputable def uc (P:Program) (KT:FuncId→Nat→Nat) (fu:Nat) (r:pD) (call:aK):aK:=fun tgt args H=>match tgt with
 | .round d i=>oa P KT fu r call d i args H
 | tgt=>call tgt args H
theorem Hh       {P:Program} (hN:dG P) (hD:gb P) (KT:FuncId→Nat→Nat) (fu:Nat) {r:pD} (hr:r.Ok P) {call:aK} (hC:b9 P call):b9 P (uc P KT fu r call):=by
 intro tgt args H v H' h hne p M w cargs hH hA;cases tgt with
 | fn f=>exact hC (.fn f) args H v H' h hne p M w cargs hH hA
 | mode=>exact hC .mode args H v H' h hne p M w cargs hH hA
 | round d i =>
   have h:oa P KT fu r call d i args H=some (v,H'):=h;unfold oa at h;split at h;case h_2=>exact hC (.round d i) args H v H' h hne p M w cargs hH hA
   rename_i l hg;split at h;case isFalse=>exact hC (.round d i) args H v H' h hne p M w cargs hH hA
   rename_i hl;obtain ⟨_,hbody⟩:=hl;intro b o t hm;split at h
   · simp at h
   · rename_i hl;split at h
     · rename_i hs;split at h
       · rename_i fr hp;split at h
         · rename_i fr1 H1 he1;split at h
           · rename_i l1 hg1;split at h
             · rename_i hs1;split at h
               · rename_i e frx lvx H2 he2;split at h
                 · rename_i l2 hg2;simp only[nP] at h;obtain ⟨rfl,rfl⟩:=h;refine tE (fr2:=frx) (lv:=lvx) hN hC (fun cx F h1 h2 hW=>more hN hD hC cx F h1 h2 hW) hg (by simpa using hl) hs hp he1 hg1 hs1 (fun b=>?_) hg2 hH hA hm;rw[hbody,hr.body];exact AO (tn (cx:=⟨P,call,fu,l.fn,l.nt,KT l.fn,some (d+1,i)⟩) (dJ.inRound b) hN hC (more hN hD hC _ _ rfl rfl (dJ.inRound b)) hr.S hr.L _ _ _ _ _ _ he2)
                 · simp at h
               · simp at h
             · simp at h
           · simp at h
         · simp at h
       · simp at h
     · simp at h
noncomputable def py (P:Program) (KT:FuncId→Nat→Nat) (fu:Nat) (g:FuncId) (r:pD) (call:aK):aK:=fun tgt args H=>match tgt with
 | .fn f=>if Nat.beq f g then pj P KT fu g (uc P KT fu r call) args H else call (.fn f) args H
 | tgt=>call tgt args H
theorem Hg {P:Program} (hN:dG P) (hD:gb P) (KT:FuncId→Nat→Nat) (fu:Nat) (g:FuncId) {r:pD} (hr:r.Ok P) {call:aK} (hC:b9 P call):b9 P (py P KT fu g r call):=by
 intro tgt args H v H' h hne p M w cargs hH hA;cases tgt with
 | fn f =>
   unfold py at h;dsimp only at h;split at h
   · rename_i e;have:=Nat.eq_of_beq_eq_true e;subst this;exact pn hN hD KT fu (Hh hN hD KT fu hr hC) h hH hA
   · exact hC (.fn f) args H v H' h hne p M w cargs hH hA
 | round d i=>exact hC (.round d i) args H v H' h hne p M w cargs hH hA
 | mode=>exact hC .mode args H v H' h hne p M w cargs hH hA
noncomputable def GH (P:Program) (KT:FuncId→Nat→Nat) (fu:Nat) (f g:FuncId) (r:pD) (call:aK) (args:List AV) (H:ab):Option (AV×ab):=pj P KT fu f (py P KT fu g r call) args H
theorem Em {P:Program} (hN:dG P) (hD:gb P) {f g:FuncId} {r:pD} (hr:r.Ok P) (KT:FuncId→Nat→Nat) (fu:Nat) {call:aK} (hC:b9 P call) {args:List AV} {H:ab} {v:AV} {H':ab} (h:GH P KT fu f g r call args H=some (v,H'))
 {p:aF} {M:Mu} {w:World} {cargs:Array Value} (hH:bj p M H w) (hA:eH p M args cargs):(∃ fn,P.funcs[f]?=some fn∧fn.body.isNone=false)∧CallsIn Fence.wide 0 P f cargs w (eP p M H w v H') :=
 pn hN hD KT fu (Hg hN hD KT fu g hr hC) h hH hA
end Go.Eng
end
section
namespace Go.Eng

def LU (b:Bool) (v:AV):Bool :=
 match v with
 | .bool c=>cond b c (cond c false true)
 | _=>false
theorem CD (b:Bool) (v:AV):LU b v=Od b v:=by
 cases v with
 | bool c=>cases b<;>cases c<;>rfl
 | _=>rfl
noncomputable def bV.tD (L:bV) (cx:Cx) (callR:bt) (bl:eW) (rg:ou) (k n:Nat) (kv:AV×AV) (fr:aD) (H:ab):Tr (aD×ab) :=
 (iw cx.P cx.nt cx.call callR L.ops1 L.t1 (qL cx.nt fr (some L.nx) (.tup [.bool true,kv.1,kv.2],none)) H).bind fun x =>
   cond (LU true (lf x.1 L.mo).1) (cond (nK k (lf x.1 L.it).1)
    ((iw cx.P cx.nt cx.call callR L.ops2 L.t2 (qL cx.nt x.1 (some L.en) (.tup [kv.1,kv.2],none)) x.2).bind fun y =>
      (aH cx callR bl rg L.rest y.1 y.2).bind fun z=>match z with
        | (.normal,fr,H)=>cond (nK k (lf (gf fr L.km) L.it).1) (.ok (gf fr L.km,lJ n (strip (gf fr L.km)) H)) .bad
        | _=>.bad) .bad) .bad
theorem bV.Er {L:bV} {cx:Cx} {callR:bt} {bl:eW} {rg:ou} (hC:callR.Ok cx.call) (hB:bl.Ok cx L.rest) (hR:rg.Ok cx L.rest) {k n:Nat} {kv:AV×AV} {fr:aD} {H:ab} {y:aD×ab} (h:(L.tD cx callR bl rg k n kv fr H).run=some y) :
 L.round cx k n kv (strip fr) H=some (strip y.1,y.2):=by
 unfold bV.tD at h
 obtain ⟨x,h1,h⟩:=Tr.bind_some h
 obtain ⟨b1,h⟩:=Tr.aW h
 obtain ⟨b2,h⟩:=Tr.aW h
 obtain ⟨z,h2,h⟩:=Tr.bind_some h
 obtain ⟨u,h3,h⟩:=Tr.bind_some h
 have h1:=fm hC _ _ _ _ h1
 have h2:=fm hC _ _ _ _ h2
 have h3:=fJ hC L.rest hB hR _ _ _ h3
 rw[mc] at h1 h2
 rw[CD,eY] at b1
 rw[eY] at b2
 unfold bV.round
 rw[fo,h1]
 dsimp only
 rw[b1,b2,Bool.and_self,if_pos rfl,fo,h2]
 dsimp only
 rw[fK,h3]
 obtain ⟨e,f,G⟩:=u
 cases e with
 | normal =>
   dsimp only at h
   obtain ⟨b3,h⟩:=Tr.aW h
   rw[eY,eK] at b3
   show (if nK k (bM (bT (strip f) L.km) L.it) then _ else none)=_
   rw[if_pos b3,← Tr.af h,eK]
 | _=>exact (Tr.ah h).elim
noncomputable def bV.vz (L:bV) (cx:Cx) (callR:bt) (fr:aD) (H:ab):Tr (aD×ab) :=
 (iw cx.P cx.nt cx.call callR L.ops1 L.t1 (qL cx.nt fr (some L.nx) (.tup [.bool false],none)) H).bind fun x=>cond (LU false (lf x.1 L.mo).1) (.ok x) .bad
theorem bV.F6 {L:bV} {cx:Cx} {callR:bt} (hC:callR.Ok cx.call) {fr:aD} {H:ab} {y:aD×ab} (h:(L.vz cx callR fr H).run=some y):L.last cx (strip fr) H=some (strip y.1,y.2):=by
 unfold bV.vz at h;obtain ⟨x,h1,h⟩:=Tr.bind_some h;obtain ⟨b1,h⟩:=Tr.aW h;have h1:=fm hC _ _ _ _ h1;rw[mc] at h1;rw[CD,eY] at b1;unfold bV.last;rw[fo,h1];dsimp only;rw[if_pos b1,← Tr.af h]
noncomputable def eC.Mm (S:eC) (cx:Cx) (callR:bt) (fr:aD) (H:ab):Tr (aD×ab):=iw cx.P cx.nt cx.call callR S.ops0 S.pre fr H
theorem eC.IX {S:eC} {cx:Cx} {callR:bt} (hC:callR.Ok cx.call) {fr:aD} {H:ab} {y:aD×ab} (h:(S.Mm cx callR fr H).run=some y):kT cx.P cx.nt cx.call S.ops0 S.pre (strip fr) H=some (strip y.1,y.2):=by
 rw[fo];exact fm hC _ _ _ _ h
end Go.Eng
end
section
namespace Go.Eng
noncomputable section

def Sv (base:bt) (d0 i0:Nat) (args0:List AV) (H0:ab) (u:Tr (AV×ab)):bt:=fun tgt args H=>match tgt with
 | .round d i=>cond (Nat.beq d d0 && Nat.beq i i0) (.reqP (mw args=args0∧H=H0) (u.bind fun y=>.ok ((y.1,none),y.2))) .bad
 | .fn g=>base (.fn g) args H
 | .mode=>base .mode args H
theorem Mp {base:bt} {call:aK} (h:base.Ok call) {d0 i0:Nat} {args0:List AV} {H0:ab} {u:Tr (AV×ab)} (k:∀ x,u.run=some x→call (.round d0 i0) args0 H0=some x):(Sv base d0 i0 args0 H0 u).Ok call:=by
 refine ⟨h.1,fun tgt args H x hx=>?_⟩;cases tgt with
 | fn g=>exact h.2 _ _ _ _ hx
 | mode=>exact h.2 _ _ _ _ hx
 | round d i =>
   unfold Sv at hx;obtain ⟨hc,hx2⟩:=Tr.aW hx;clear hx;rw[Bool.and_eq_true] at hc;have e1:=Nat.eq_of_beq_eq_true hc.1;have e2:=Nat.eq_of_beq_eq_true hc.2;subst e1;subst e2;obtain ⟨⟨e3,e4⟩,hx3⟩:=Tr.gl hx2;obtain ⟨y,h1,h2⟩:=Tr.bind_some hx3;rw[e3,e4,k _ h1,← Tr.af h2]

theorem GI {cx:Cx} {f:Operand} {ps:Array Tmp} {as bd:Code} {fr:aA} {H H1:ab} {g:FuncId} {a b:List AV} {v:AV} {l:ot} {e:Ex} (hf:b5 fr f=.fn (.func g) a b) (hh:cx.here H=true) (hl:aL H 0=false)
 (hc:cx.call (.fn g) (a++(.yld 0 (aZ H)::b)) (iX fr H cx ps as bd)=some (v,H1)) (hg:az H1 0 (aZ H)=(0,.loop l)) (hb:(l.state == .busy)=false) (he:xR l.pending=some e) :
 exec cx (.rangeFunc f ps as bd) fr H=some (e,fr,ev H1 0 (aZ H)):=by
 unfold exec
 rw[hf]
 dsimp only
 rw[hh,hl]
 simp only[Bool.not_true,Bool.false_or,Bool.false_eq_true,if_false,hc,hg,hb,he]

end
end Go.Eng
end
section
namespace Go.Eng
noncomputable section

def Tr.all {α:Type} (T:Tr α) (Q:α→Prop):Prop:=∃ x,T.run=some x∧Q x
theorem Tr.ag {α:Type} {a:α} {Q:α→Prop} (h:Q a):(Tr.ok a).all Q:=⟨a,rfl,h⟩
theorem Tr.ae {α:Type} {c:Bool} {a b:Tr α} {Q:α→Prop} (h1:c=true→a.all Q) (h2:c=false→b.all Q):(Tr.ite c a b).all Q:=by
 cases c with
 | true=>exact h1 rfl
 | false=>exact h2 rfl
theorem Tr.aa {α:Type} {c:Bool} {a:Tr α} {Q:α→Prop} (h:c=true) (k:a.all Q):(Tr.req c a).all Q:=by
 subst h;exact k
theorem Tr.ak {α:Type} {p:Prop} {a:Tr α} {Q:α→Prop} (h:p) (k:a.all Q):(Tr.reqP p a).all Q:=by
 obtain ⟨x,h1,h2⟩:=k;exact ⟨x,(Tr.GR h).trans h1,h2⟩
theorem Mc (b:Bool):(bU b=true)=(b=false):=by rw[aO];cases b<;>simp
theorem Mb (b:Bool):(bU b=false)=(b=true):=by rw[aO];cases b<;>simp
theorem K6 (a b:Bool):(bL a b=true)=(a=true∧b=true):=by rw[bW];cases a<;>cases b<;>simp
theorem K5 (a b:Bool):(bL a b=false)=¬ (a=true∧b=true):=by rw[bW];cases a<;>cases b<;>simp
theorem Oz (x y:Int):(bw x y=true)=(x<y):=by rw[bn];simp
theorem Oy (x y:Int):(bw x y=false)=(y≤x):=by rw[bn];simp
theorem Ot (x y:Int):(cU x y=true)=(x≤y):=by rw[a7];simp
theorem Oq (x y:Int):(cU x y=false)=(y<x):=by rw[a7];simp
theorem NW (x y:Int):(cK x y=true)=(x=y):=by rw[bf];simp
theorem NV (x y:Int):(cK x y=false)=¬ (x=y):=by rw[bf];simp
theorem Ob (x:Int) (n:Nat):(b8 x n=true)=(0≤x∧x<(n:Int)):=by rw[pU];simp
theorem Lh (x:Int) (n:Nat):(ki x n=true)=(0≤x∧x≤(n:Int)):=by rw[B9];simp
theorem OB (x y:Nat):(bR x y=true)=(x<y):=by rw[gV];simp
theorem OA (x y:Nat):(bR x y=false)=(y≤x):=by rw[gV];simp
theorem Ov (x y:Nat):(dO x y=true)=(x≤y):=by rw[iS];simp
theorem Ou (x y:Nat):(dO x y=false)=(y<x):=by rw[iS];simp
theorem NY (x y:Nat):(cu x y=true)=(x=y):=by rw[eQ];simp
theorem NX (x y:Nat):(cu x y=false)=¬ (x=y):=by rw[eQ];simp
theorem Oc (o m p n:Nat):(fF o m p n=true)=(p≤o∧o+m≤p+n):=by rw[iP];simp
theorem Gh (x y:Int):qY x y=min x y:=by rw[mN];omega
theorem Gg (x y:Int):nb x y=max x y:=by rw[mM];omega
theorem I4 (m n b:Nat):(ig m n b=true)=((m+n)*b≤70368744177664∧m+n≤70368744177664):=by rw[zi];exact decide_eq_true_eq
theorem OD (l c:Int) (b:Nat):(Ec l c b=true)=(0≤l∧l≤c∧c.toNat*b≤70368744177664∧c.toNat≤70368744177664):=by rw[wL];exact decide_eq_true_eq
theorem Bu (n:Nat):Int.ofNat n=(n:Int):=rfl
theorem yI:Int.negSucc 1=-2:=rfl
theorem wR:Int.negSucc 0=-1:=rfl
theorem yJ:Int.negSucc 2=-3:=rfl
theorem Jo {x:Int} (h:0≤x):(x+1).toNat=x.toNat+1:=by omega
theorem fW {k:Int} (h1:-9223372036854775808≤k) (h2:k≤9223372036854775807):IntKind.i64.wrap k=k:=Go.IntWalk.i64_in _ wO

theorem nV:(∀ x y:Int,(bw x y=true)=(x<y)) ∧
 (∀ x y:Int,(bw x y=false)=(y≤x)) ∧
 (∀ x y:Int,(cU x y=true)=(x≤y)) ∧
 (∀ x y:Int,(cU x y=false)=(y<x)) ∧
 (∀ x y:Int,(cK x y=true)=(x=y)) ∧
 (∀ x y:Int,(cK x y=false)=¬ (x=y)) ∧
 (∀ b:Bool,(bU b=true)=(b=false)) ∧
 (∀ b:Bool,(bU b=false)=(b=true)) ∧
 (∀ a b:Bool,(bL a b=true)=(a=true∧b=true)) ∧
 (∀ a b:Bool,(bL a b=false)=¬ (a=true∧b=true)) ∧
 (∀ (x:Int) (n:Nat),(b8 x n=true)=(0≤x∧x<(n:Int))) ∧
 (∀ (x:Int) (n:Nat),(ki x n=true)=(0≤x∧x≤(n:Int))) ∧
 (∀ x y:Nat,(bR x y=true)=(x<y)) ∧
 (∀ x y:Nat,(bR x y=false)=(y≤x)) ∧
 (∀ x y:Nat,(dO x y=true)=(x≤y)) ∧
 (∀ x y:Nat,(dO x y=false)=(y<x)) ∧
 (∀ x y:Nat,(cu x y=true)=(x=y)) ∧
 (∀ x y:Nat,(cu x y=false)=¬ (x=y)) ∧
 (∀ o m p n:Nat,(fF o m p n=true)=(p≤o∧o+m≤p+n)) ∧
 (∀ m n b:Nat,(ig m n b=true)=((m+n)*b≤70368744177664∧m+n≤70368744177664)) ∧
 (∀ (l c:Int) (b:Nat),(Ec l c b=true)=(0≤l∧l≤c∧c.toNat*b≤70368744177664∧c.toNat≤70368744177664)) ∧
 (∀ x y:Int,qY x y=min x y) ∧
 (∀ x y:Int,nb x y=max x y) ∧
 (∀ (o:Nat) (i:Int) (s:Nat),aq o i s=o+i.toNat*s) ∧
 (∀ a b:Nat,ar a b=a+b) ∧
 (∀ a b:Nat,jh a b=a-b) ∧
 (∀ i:Int,cg i=i.toNat) ∧
 (∀ (k:IntKind) (x y:Int),aQ k x y=k.wrap (x+y)) ∧
 (∀ (k:IntKind) (x y:Int),bH k x y=k.wrap (x-y)) ∧
 (∀ (k:IntKind) (x y:Int),wM k x y=k.wrap (x*y)) ∧
 (∀ n:Nat,Int.ofNat n=(n:Int)) ∧
 (Int.negSucc 0=-1) ∧
 (Int.negSucc 1=-2) ∧
 (Int.negSucc 2=-3) ∧
 (∀ {k:Int},-9223372036854775808≤k→k≤9223372036854775807→IntKind.i64.wrap k=k) ∧
 (∀ {x:Int},0≤x→(x+1).toNat=x.toNat+1) ∧
 ((0:Int).toNat=0) ∧
 (∀ n:Nat,0*n=0) ∧
 (∀ n:Nat,1*n=n) ∧
 (∀ n:Nat,(n:Int).toNat=n) ∧
 (((0:Nat):Int)=0) ∧
 (((1:Nat):Int)=1) ∧
 (∀ n:Nat,0+n=n) ∧
 ((¬ True)=False) ∧
 ((¬ False)=True) ∧
 ((true=false)=False) ∧
 ((false=true)=False) ∧
 ((!true)=false) ∧
 ((!false)=true) ∧
 (∀ p:Prop,(True∧p)=p) ∧
 (∀ p:Prop,(p∧True)=p) ∧
 (∀ p:Prop,(False∧p)=False) ∧
 (∀ p:Prop,(p∧False)=False) :=
 ⟨Oz,Oy,Ot,Oq,NW,NV,Mc,Mb,K6,K5,Ob,Lh,OB,OA,Ov,Ou,NY,NX,Oc,I4,OD,Gh,Gg,bP,aC,gx,jK,fG,eA,mO,Bu,wR,yI,yJ,fW,Jo,Int.toNat_zero,Nat.zero_mul,Nat.one_mul,Int.toNat_natCast,Int.natCast_zero,Int.natCast_one,Nat.zero_add,not_true_eq_false,not_false_eq_true,Bool.true_eq_false,Bool.false_eq_true,Bool.not_true,Bool.not_false,true_and,and_true,false_and,and_false⟩
theorem nW:(∀ a b:Nat,bD a b=a*b)∧(∀ {α:Type} (a:α),(a=a)=True)∧(∀ {n:Nat},((no_index (OfNat.ofNat n):Nat):Int)=OfNat.ofNat n):=⟨jt,fun a=>eq_self a,Int.cast_ofNat_Int⟩
theorem wF {p:Prop} (h:p:=by
  repeat' first | (refine Tr.ae (fun hc=>?_) (fun hc=>?_)<;>(try simp (disch:=omega) only[nV,nW] at hc)<;>try omega) | (refine Tr.aa ?_ ?_;· (try simp (disch:=omega) only[nV,nW]);try omega) | (refine Tr.ak ?_ ?_;· first | exact trivial | rfl | exact ⟨rfl,rfl⟩ | exact ⟨trivial,rfl⟩ | exact ⟨rfl,by assumption⟩ | exact ⟨trivial,by assumption⟩ | exact ⟨rfl,rfl,rfl⟩ | (simp (disch:=omega) only[nV,nW];done) | ((try simp (disch:=omega) only[nV,nW]);omega)) | fail
  all_goals first
  | exact Tr.ag ⟨rfl,rfl⟩
  | exact Tr.ag rfl
  | fail):p:=h
theorem dK {c B:Code} {i:Nat} (h:((aE c).filter fun x=>Nat.beq x.1 i)=[(i,B)]):∀ b,(i,b) ∈ aE c→b=B:=by
  intro b hb;have hm:(i,b) ∈ ((aE c).filter fun x=>Nat.beq x.1 i):=List.mem_filter.2 ⟨hb,Nat.beq_refl i⟩;rw[h] at hm;simpa using hm
theorem wG {p:Prop} (h:p:=by simp (disch:=omega) only[nV,nW]<;>omega):p:=h
theorem wJ {p q:Prop} (h:¬p:=by simp (disch:=omega) only[nV,nW]<;>omega):p→q:=fun x=>absurd x h
end
end Go.Eng
end
section
namespace Go.Eng
theorem BA {P:Program} {KT:FuncId→Nat→Nat} {fu:Nat} {f:FuncId} {call:aK} {fn:Func} (hf:P.funcs[f]?=some fn) (hb:fn.body.isSome=true) {args:List HV} {H:ab} (hle:Nat.ble args.length fn.ntmps=true)
 {callR:bt} (hC:callR.Ok call) {bl:eW} (hB:bl.Ok ⟨P,call,fu,f,fn.ntmps,KT f,none⟩ (bx fn)) {rg:ou} (hR:rg.Ok ⟨P,call,fu,f,fn.ntmps,KT f,none⟩ (bx fn)) {y:HV×ab}
 (h:(bu P call fu f fn (KT f) callR bl rg args H).run=some y):pj P KT fu f call (mw args) H=some (y.1.1,y.2):=by
 unfold bu at h
 obtain ⟨x,h1,h⟩:=Tr.bind_some h
 have h1:=fJ hC _ hB hR _ _ _ h1
 rw[vX] at h1
 obtain ⟨l,vs,k1,k2,k3,k4⟩:=C6 h
 obtain ⟨c,hc⟩:=Option.isSome_iff_exists.1 hb
 have hbody:bx fn=c:=by unfold bx;rw[hc]
 rw[hbody] at h1
 obtain ⟨e,fr,H1⟩:=x
 dsimp only[dY.st] at h1 k1 k2 k3
 rw[k1] at h1 k3
 have hl:(mw args).length=args.length:=by unfold mw;rw[kI,List.length_map]
 simp only[pj,hf,hc,hl,hle,if_true,h1]
 rcases k2 with rfl | rfl<;>simp only[k3]<;>rw[k4]
end Go.Eng
end
