/- The engine, part F: maps. -/
import Derived.Test.YtgphpjdchnfjlaaDoorV6EngE
import Derived.WideKeyRuns
set_option linter.unusedVariables false
set_option linter.unusedSimpArgs false
namespace Go.Eng
variable {nx:Nat}

theorem r8         {P:Program} {k:IntKind} (em:Bool):∀ (n:Nat) (t:TypeId) (s:Nat),cA P n t=some s→∀ d,n≤d→∀ (xs:List Int),xs.length=s→∀ w,
 (Instr.checkKey em d t (xv P t k xs)).run P w=.ok () w
 | 0,t,s,h=>by simp[cA] at h
 | n + 1, t, s,h=>by
   intro d hd xs hx w;obtain ⟨d,rfl⟩:∃ q,d=q+1:=⟨d-1,by omega⟩
   have ih:=fun t s h=>r8 (P:=P) (k:=k) em n t s h d wO;simp only[cA] at h;cases hu:P.underlying t with
   | none=>rw[hu] at h;simp at h
   | some dd =>
     rw[hu] at h;cases dd<;>try (simp at h;done)
     case int k' =>
      have hag:eX P t=some false:=by simp[eX,hu]
      simp[xv,hag,Instr.checkKey,Sem.run_bind,run_underlying hu,Result.andThen]
     case array len e =>
      have hag:eX P t=some true:=by simp[eX,hu]
      simp only at h
      cases hf:cA P n e with
      | none=>rw[hf] at h;simp at h
      | some q =>
        rw[hf] at h
        simp only at h
        split at h
        · simp only[Option.some.injEq] at h
          subst h
          have hse:=(kz hf).1
          simp only[xv,hag,if_true]
          rw[Instr.checkKey]
          simp only[Sem.run_bind,run_underlying hu,Result.andThen_ok]
          simp only[Std.Legacy.Range.forIn_eq_forIn_range',Std.Legacy.Range.size,Nat.sub_zero,Nat.add_one_sub_one,Nat.div_one]
          have each:∀ j ∈ List.range' 0 len,j*q+q≤xs.length:=by
           intro j hj;simp at hj;rw[hx];have:=Nat.mul_le_mul_right q (show j+1≤len by omega);rw[Nat.add_mul] at this;omega
          clear hx
          generalize List.range' 0 len=is at each
          induction is with
          | nil=>simp
          | cons j is ih2 =>
            have hj:=each j (by simp)
            have hlx:((xs.drop (j*q)).take q).length=q:=by simp;omega
            have p2:=ih e q hf _ hlx w
            simp only[List.forIn_cons,Sem.run_bind,aN hse,Result.andThen_ok,iD hf hj,p2,Sem.run_pure]
            exact ih2 (fun y hy=>each y (by simp[hy]))
        · simp at h
     case struct fs =>
      have hag:eX P t=some true:=by simp[eX,hu]
      simp only at h
      split at h
      · simp at h
      · cases hf : fM P (cA P n) 0 fs.toList with
        | none=>rw[hf] at h;simp at h
        | some q =>
          rw[hf] at h
          simp only at h
          split at h
          · simp only[Option.some.injEq] at h
            subst h
            simp only[xv,hag,if_true]
            rw[Instr.checkKey]
            simp only[Sem.run_bind,run_underlying hu,Result.andThen_ok]
            rw[← Array.forIn_toList]
            have go:∀ (L:List Field) (off:Nat),fM P (cA P n) off L=some q→off≤q∧(forIn (m:=Sem) L PUnit.unit (fun f _=>do
             if f.name ≠ "_" then Instr.checkKey em d f.type (← part f.type (xs.map (Value.int k)).toArray f.offset)
             pure (ForInStep.yield PUnit.unit))).run P w=.ok PUnit.unit w:=by
             intro L
             induction L with
             | nil=>intro off h0;simp[fM] at h0;exact ⟨by omega,by simp⟩
             | cons f L ih2 =>
               intro off h0
               simp only[fM] at h0
               split at h0
               · rename_i hf0
                 simp only[Bool.and_eq_true,bne_iff_ne,ne_eq,Nat.beq_eq] at hf0
                 obtain ⟨hne,hoff⟩:=hf0
                 cases hs:cA P n f.type with
                 | none=>rw[hs] at h0;simp at h0
                 | some s =>
                   rw[hs] at h0
                   simp only at h0
                   obtain ⟨hle,hrun⟩:=ih2 _ h0
                   refine ⟨by omega,?_⟩
                   have hlx:((xs.drop off).take s).length=s:=by simp;omega
                   have p2:=ih f.type s hs _ hlx w
                   simp only[List.forIn_cons,Sem.run_bind,hne,ne_eq,not_false_eq_true,if_true,Result.andThen_ok,hoff,iD hs (show off+s≤xs.length by omega),p2,Sem.run_pure]
                   exact hrun
               · simp at h0
            have:=(go fs.toList 0 hf).2
            simp only[Array.forIn_toList] at this ⊢
            rw[this]
            rfl
          · simp at h

def jD (ces:List MapEntry) (i:Nat) (ck:Value) (r:Option Nat) (out:Option (Nat×Value)):Prop :=
 match r with
 | none=>out=none
 | some j=>∃ e,i≤j∧ces[j-i]?=some e∧out=some (j,e.val)∧e.key=ck

theorem jD.step {ces:List MapEntry} {e:MapEntry} {i:Nat} {ck:Value} {r:Option Nat} {out:Option (Nat×Value)} (h:jD ces (i+1) ck r out):jD (e::ces) i ck r out:=by
 cases r with
 | none=>exact h
 | some j =>
   obtain ⟨x,h1,h2,h3,h4⟩:=h;refine ⟨x,by omega,?_,h3,h4⟩;obtain ⟨q,hq⟩:∃ q,j-i=q+1:=⟨j-i-1,by omega⟩
   rw[hq,List.getElem?_cons_succ];rw[← h2];congr 1;omega

theorem qt {p:aF} {M:Mu} {k kk:IntKind} {n:Int}:∀ (es:List (AV×AV)) (ces:List MapEntry) (i:Nat) (r:Option Nat),fL (.int k n) es i=some r→ces.length=es.length →
 (∀ j e,ces[j]?=some e→al p M (es.getD j (.undef,.undef)).1 e.key)→∃ out,Instr.findNow (.int kk) (.int k n) ces i=some out∧jD ces i (.int k n) r out
 | [],ces,i,r,h,hl,_=>by
   have:ces=[]:=List.length_eq_zero_iff.1 (by simpa using hl);subst this;simp only[fL,Option.some.injEq] at h;subst h;exact ⟨none,rfl,rfl⟩
 | (a, v)::es,ces,i,r,h,hl,hv=>by
   cases ces with
   | nil=>simp at hl
   | cons e ces =>
     have h0:=hv 0 e rfl;simp only[List.getD_cons_zero] at h0;simp only[fL] at h;cases hk:oX (.int k n) a with
     | none=>rw[hk] at h;simp at h
     | some b =>
       rw[hk] at h;cases a<;>try (simp[oX] at hk;done)
       rename_i k' m;have hek:=h0.ofInt;simp only[oX] at hk;split at hk
       · rename_i hkk;subst hkk;simp only[Option.some.injEq] at hk;cases b with
         | true =>
           simp only[Option.some.injEq] at h;subst h;have hnm:n=m:=by simpa using hk
           subst hnm;refine ⟨some (i,e.val),by simp[Instr.findNow,Instr.sameNow,hek],e,Nat.le_refl _,by simp,rfl,hek⟩
         | false =>
           simp only at h;obtain ⟨out,k1,k2⟩:=qt (kk:=kk) es ces (i+1) r h (by simpa using hl) (fun j x hx=>by have:=hv (j+1) x (by simpa using hx);simpa using this);refine ⟨out,?_,k2.step⟩;simp[Instr.findNow,Instr.sameNow,hek,hk,k1]
       · simp at hk

theorem lK {P:Program} {p:aF} {M:Mu} {t:TypeId} {k:IntKind} {l:List Int} (hf:cA P 20 t=some l.length) (hag:eX P t=some true) (w:World):∀ (es:List (AV×AV)) (ces:List MapEntry) (i:Nat) (r:Option Nat),fL (.agg (.I k l)) es i=some r→ces.length=es.length →
 (∀ j e,ces[j]?=some e→al p M (es.getD j (.undef,.undef)).1 e.key)→∃ out,(Instr.findAsking t (.agg (l.map (Value.int k)).toArray) ces i).run P w=.ok out w∧jD ces i (.agg (l.map (Value.int k)).toArray) r out
 | [],ces,i,r,h,hl,_=>by
   have:ces=[]:=List.length_eq_zero_iff.1 (by simpa using hl);subst this;simp only[fL,Option.some.injEq] at h;subst h;exact ⟨none,rfl,rfl⟩
 | (a, v)::es,ces,i,r,h,hl,hv=>by
   cases ces with
   | nil=>simp at hl
   | cons e ces =>
     have h0:=hv 0 e rfl;simp only[List.getD_cons_zero] at h0;simp only[fL] at h;cases hk:oX (.agg (.I k l)) a with
     | none=>rw[hk] at h;simp at h
     | some b =>
       rw[hk] at h;cases a<;>try (simp[oX] at hk;done)
       rename_i row;cases row<;>try (simp[oX] at hk;done)
       rename_i k' m;have hek:=jP h0;simp only[oX] at hk;split at hk
       · rename_i hkk;obtain ⟨rfl,hlen⟩:=hkk;simp only[Option.some.injEq] at hk;have heq:=rl (P:=P) (k:=k) 20 t l.length hf 10000 wO l m rfl hlen.symm w;simp only[xv,hag,if_true,hk] at heq;have heq':(Op.equal t (.agg (l.map (Value.int k)).toArray) e.key).run P w=.ok b w:=by rw[hek];exact heq
         cases b with
         | true =>
           simp only[Option.some.injEq] at h;subst h;rw[fy] at hk;have hnm:l=m:=by simpa using hk
           subst hnm;exact ⟨some (i,e.val),by simp[Instr.findAsking,Sem.run_bind,heq',Result.andThen],e,Nat.le_refl _,by simp,rfl,hek⟩
         | false =>
           simp only at h;obtain ⟨out,k1,k2⟩:=lK hf hag w es ces (i+1) r h (by simpa using hl) (fun j x hx=>by have:=hv (j+1) x (by simpa using hx);simpa using this);refine ⟨out,?_,k2.step⟩;simp[Instr.findAsking,Sem.run_bind,heq',Result.andThen,k1]
       · simp at hk

theorem po (k:IntKind) (n:Int) (d:Nat):Instr.sameBits d (.int k n) (.int k n)=true:=by
 cases d<;>simp[Instr.sameBits]
theorem uS (k:IntKind) (l:List Int):Instr.sameBits 10000 (.agg (l.map (Value.int k)).toArray) (.agg (l.map (Value.int k)).toArray)=true:=by
 show Instr.sameBits (9999+1) _ _=true;simp only[Instr.sameBits,beq_self_eq_true,Bool.true_and,List.all_eq_true];intro q hq;obtain ⟨i,hi,e⟩:=List.getElem_of_mem hq;rw[List.getElem_zip] at e;rw[← e];simp only[List.getElem_map];exact po _ _ _

theorem rv {P:Program} {kt:TypeId} {key:AV} (hfit:jG P kt key=true) {p:aF} {M N:Mu} {ck:Value} (hk:al p M key ck) {es:List (AV×AV)} {ces:Array MapEntry} {r:Option Nat}
 (hf:fL key es 0=some r) (hl:ces.size=es.length) (hv:∀ j,(h:j<ces.size)→al p N (es.getD j (.undef,.undef)).1 ces[j].key) (em:Bool) (w:World) :
 (Instr.checkKey em 10000 kt ck).run P w=.ok () w∧(∃ out,(Instr.findKey kt ck ces.toList).run P w=.ok out w∧jD ces.toList 0 ck r out)∧(Instr.keyThatStays ck ck).run P w=.ok ck w∧∀ N',al p N' key ck:=by
 have hv':∀ j e,ces.toList[j]?=some e→al p N (es.getD j (.undef,.undef)).1 e.key:=by
  intro j e he;obtain ⟨hj,rfl⟩:=List.getElem?_eq_some_iff.1 he;exact hv j (by simpa using hj)
 unfold jG at hfit
 cases hu:P.underlying kt with
 | none=>simp[hu] at hfit
 | some d =>
   cases key<;>try (cases d<;>simp[hu] at hfit;done)
   case int k n =>
    cases d<;>try (simp[hu] at hfit;done)
    rename_i kk
    have hck:=hk.ofInt
    subst hck
    refine ⟨?_,?_,by simp[Instr.keyThatStays,po],fun N'=>.int _ _⟩
    · show (Instr.checkKey em (9999+1) kt _).run P w=_
      rw[Instr.checkKey]
      simp only[Sem.run_bind,run_underlying hu,Result.andThen,Sem.run_pure]
    · obtain ⟨out,k1,k2⟩:=qt (kk:=kk) es ces.toList 0 r hf (by simpa using hl) hv'
      exact ⟨out,MapKept.run_findKey hu k1,k2⟩
   case agg row =>
    cases row<;>try (cases d<;>simp[hu] at hfit;done)
    rename_i k l
    have hck:=jP hk
    subst hck
    have hfl:cA P 20 kt=some l.length:=by cases d<;>simp[hu] at hfit<;>exact hfit
    have hag:eX P kt=some true:=by cases d<;>simp[hu] at hfit<;>simp[eX,hu]
    have hwide:(match P.underlying kt with | some (.array _ _) | some (.struct _)=>true | _=>false)=true:=by cases d<;>simp[hu] at hfit<;>simp[hu]
    refine ⟨?_,?_,by simp[Instr.keyThatStays,uS],fun N'=>?_⟩
    · have:=r8 (P:=P) (k:=k) em 20 kt _ hfl 10000 wO l rfl w
      simpa[xv,hag] using this
    · obtain ⟨out,k1,k2⟩:=lK hfl hag w es ces.toList 0 r hf (by simpa using hl) hv'
      exact ⟨out,by rw[run_findKey_eq w hwide];exact k1,k2⟩
    · cases hk with
      | agg hs h1 hv=>exact .agg hs h1 (fun j hj=>(hv j hj).bp _ _)

theorem vG:∀ (es:List (AV×AV)) (i:Nat),nY es i=(es.getD i (.undef,.undef)).2
 | [],i=>by simp[nY]
 | e::es,0=>by simp[nY]
 | e::es,i+1=>by simp[nY,vG es i]
theorem mT:∀ (es:List (AV×AV)) (i:Nat) (x:AV×AV),og es i x=es.set i x
 | [],i,x=>by simp[og]
 | e::es,0,x=>by simp[og]
 | e::es,i+1,x=>by simp[og,mT es i x]
theorem pI:∀ (es:List (AV×AV)) (i:Nat),nA es i=es.eraseIdx i
 | [],i=>by simp[nA]
 | e::es,0=>by simp[nA]
 | e::es,i+1=>by simp[nA,pI es i]

theorem Jp {p:aF} {M:Mu} {v:AV} {c:Value} {b:Bool} (h:al p M v c):al p M (.tup [v,.bool b]) (.tuple #[c,.bool b]):=by
 refine .tup rfl (fun j hj=>?_);match j,hj with
 | 0,_=>exact h
 | 1,_=>exact .bool b

theorem zw (w:World) (b:Nat) (x:Obj):dx (fun y=>y≠b) w { w with heap:=w.heap.setIfInBounds b x } :=
 ⟨rfl,rfl,rfl,by simp,fun y _ hy=>by simp[Array.getElem?_setIfInBounds_ne (Ne.symm hy)]⟩

theorem jN.push {ces:Array MapEntry} {clock:Nat} (h:jN ces clock) (k v:Value):jN (ces.push { key:=k,val:=v,born:=clock }) (clock+1):=by
 refine ⟨fun j hj=>?_,fun i j hi hj e=>?_⟩
 · rw[Array.getElem_push];split
   · rename_i hlt;have:=h.1 j hlt;omega
   · simp
 · rw[Array.getElem_push,Array.getElem_push] at e;simp only[Array.size_push] at hi hj;split at e
   · rename_i h1;split at e
     · rename_i h2;exact h.2 i j h1 h2 e
     · have:=h.1 i h1;simp only at e;omega
   · split at e
     · rename_i h2;have:=h.1 j h2;simp only at e;omega
     · omega
theorem jN.modify {ces:Array MapEntry} {clock:Nat} (h:jN ces clock) (j:Nat) (k v:Value):jN (ces.modify j fun e=>{ e with key:=k,val:=v }) clock:=by
 have key:∀ i,(hi:i<(ces.modify j fun e=>{ e with key:=k,val:=v }).size)→((ces.modify j fun e=>{ e with key:=k,val:=v })[i]).born=(ces[i]'(by simpa using hi)).born:=by
  intro i hi;rw[Array.getElem_modify];split<;>rfl
 refine ⟨fun i hi=>?_,fun i i' hi hi' e=>?_⟩
 · rw[key];exact h.1 i _
 · rw[key,key] at e;exact h.2 i i' _ _ e
theorem jN.erase {ces:Array MapEntry} {clock:Nat} (h:jN ces clock) (j:Nat):jN (ces.eraseIdxIfInBounds j) clock:=by
 unfold Array.eraseIdxIfInBounds;split
 · rename_i hj;refine ⟨fun i hi=>?_,fun i i' hi hi' e=>?_⟩
   · rw[Array.getElem_eraseIdx];split<;>exact h.1 _ _
   · rw[Array.getElem_eraseIdx,Array.getElem_eraseIdx] at e;rw[Array.size_eraseIdx] at hi hi';split at e<;>split at e<;>have:=h.2 _ _ _ _ e<;>omega
 · exact h
theorem Dg {p:aF} {M:Mu} {H:ab} {w:World} (hH:bj p M H w) {d i b o t:Nat} {es es':List (AV×AV)} (hg:az H d i=(0,.map es)) (hl:aL H d=false) (hmu:M d i 0=some (b,o,t))
 {ces':Array MapEntry} {clock':Nat} {v:AV} {cv:Value} (hs:ces'.size=es'.length) (hbn:jN ces' clock') (hv:∀ j,(h:j<ces'.size)→al p (M.up d) (es'.getD j (.undef,.undef)).1 ces'[j].key∧al p (M.up d) (es'.getD j (.undef,.undef)).2 ces'[j].val)
 (hr:∀ N,al p N v cv):eI p M H nx v (.set d i (0,.map es')) cv w { w with heap:=w.heap.setIfInBounds b (.map ces' clock') }:=by
 obtain ⟨b',o',t',k1,k2,_⟩:=hH.live _ _ _ _ hg (by simp)
 rw[hmu] at k1
 simp only[nP] at k1
 obtain ⟨rfl,rfl,rfl⟩:=k1
 have hlt:=k2.lt (by simp)
 exact ⟨0,.map es,b,o,t,b,o,t,hg,by simp,hl,hmu,by simp,⟨ces',clock',by simp[hlt],hs,hbn,hv⟩,zw _ _ _,.inl rfl,hr _,.inl ⟨rfl,rfl,rfl,rfl⟩⟩

theorem CO {p:aF} {M:Mu} {H:ab} {w:World} (hH:bj p M H w) {d i b o t:Nat} {es:List (AV×AV)} (hg:az H d i=(0,.map es)) (hmu:M d i 0=some (b,o,t)) :
 ∃ ces clock,w.heap[b]?=some (.map ces clock)∧ces.size=es.length∧jN ces clock∧∀ j,(h:j<ces.size)→al p (M.up d) (es.getD j (.undef,.undef)).1 ces[j].key∧al p (M.up d) (es.getD j (.undef,.undef)).2 ces[j].val:=by
 obtain ⟨b',o',t',k1,k2,_⟩:=hH.live _ _ _ _ hg (by simp)
 rw[hmu] at k1
 simp only[nP] at k1
 obtain ⟨rfl,rfl,rfl⟩:=k1
 exact k2

def mq (key x:AV) (es:List (AV×AV)):Option Nat→List (AV×AV)
 | none=>es++[(key,x)]
 | some j=>og es j (key,x)
def DR (es:List (AV×AV)):Option Nat→List (AV×AV)
 | none=>es
 | some j=>nA es j
theorem Ap {P:Program} {t kt et:TypeId} (hu:P.underlying t=some (.map kt et)) {key x:AV} (hfit:jG P kt key=true) {p:aF} {M N:Mu} {ck cx:Value} (hk:al p M key ck) {xd:AV} (hx:al p N xd cx) {w:World}
 {es:List (AV×AV)} {ces:Array MapEntry} {clock b:Nat} (e1:w.heap[b]?=some (.map ces clock)) (e2:ces.size=es.length) (hbn:jN ces clock) (e3:∀ j,(h:j<ces.size)→al p N (es.getD j (.undef,.undef)).1 ces[j].key∧al p N (es.getD j (.undef,.undef)).2 ces[j].val)
 {r:Option Nat} (hf:fL key es 0=some r) :
 ∃ ces' clock',(Instr.mapUpdate t (.map (some b)) ck cx).run P w=.ok () { w with heap:=w.heap.setIfInBounds b (.map ces' clock') }∧ces'.size=(mq key xd es r).length∧jN ces' clock' ∧
  ∀ j,(h:j<ces'.size)→al p N ((mq key xd es r).getD j (.undef,.undef)).1 ces'[j].key∧al p N ((mq key xd es r).getD j (.undef,.undef)).2 ces'[j].val:=by
 obtain ⟨q1,⟨out,q2,q3⟩,q4,q5⟩:=rv hfit hk hf e2 (fun j hj=>(e3 j hj).1) false w
 cases r with
 | none =>
   simp only[jD] at q3
   subst q3
   refine ⟨ces.push { key:=ck,val:=cx,born:=clock },clock+1,?_,by simp[mq,e2],hbn.push ck cx,?_⟩
   · unfold Instr.mapUpdate
     simp[Sem.run_bind,run_underlying hu,Result.andThen,MapKept.run_getObj_map e1,q1,q2,MapKept.run_setObj_map _ e1]
   · intro j hj
     by_cases ej:j<ces.size
     · have e4:(mq key xd es none).getD j (.undef,.undef)=es.getD j (.undef,.undef):=by simp[mq,List.getElem?_append_left (by omega:j<es.length)]
       rw[e4,Array.getElem_push_lt ej]
       exact e3 j ej
     · have ej':j=ces.size:=by simp at hj;omega
       subst ej'
       have e4:(mq key xd es none).getD ces.size (.undef,.undef)=(key,xd):=by simp[mq,e2]
       rw[e4,Array.getElem_push_eq]
       exact ⟨q5 _,hx⟩
 | some j =>
   obtain ⟨e,_,f2,rfl,f4⟩:=q3
   obtain ⟨hj,f2⟩:=List.getElem?_eq_some_iff.1 f2
   simp only[Nat.sub_zero] at hj f2
   have hj':j<ces.size:=by simpa using hj
   have e4:ces[j]=e:=by simpa using f2
   have e5:(((ces[j]?).map (·.key)).getD ck)=ck:=by simp[hj',e4,f4]
   refine ⟨ces.modify j fun e=>{ e with key:=ck,val:=cx },clock,?_,by simp[mq,e2,mT],hbn.modify j ck cx,?_⟩
   · unfold Instr.mapUpdate
     simp only[Sem.run_bind,run_underlying hu,Result.andThen,MapKept.run_getObj_map e1,q1,q2]
     simp only[e5,q4,Sem.run_bind,Result.andThen,MapKept.run_setObj_map _ e1]
   · intro i' hi'
     have hU:mq key xd es (some j)=es.set j (key,xd):=mT _ _ _
     rw[hU]
     have hi2:i'<ces.size:=by simpa using hi'
     by_cases ej:i'=j
     · subst ej
       have e6:(es.set i' (key,xd)).getD i' (.undef,.undef)=(key,xd):=by simp[show i'<es.length by omega]
       rw[e6,Array.getElem_modify_self]
       exact ⟨q5 _,hx⟩
     · have e6:(es.set j (key,xd)).getD i' (.undef,.undef)=es.getD i' (.undef,.undef):=by simp[List.getElem?_set_ne (Ne.symm ej)]
       rw[e6,Array.getElem_modify_of_ne (Ne.symm ej)]
       exact e3 i' hi2
theorem xP {P:Program} {t kt et:TypeId} (hu:P.underlying t=some (.map kt et)) {key:AV} (hfit:jG P kt key=true) {p:aF} {M N:Mu} {ck:Value} (hk:al p M key ck) {w:World}
 {es:List (AV×AV)} {ces:Array MapEntry} {clock b:Nat} (e1:w.heap[b]?=some (.map ces clock)) (e2:ces.size=es.length) (hbn:jN ces clock) (e3:∀ j,(h:j<ces.size)→al p N (es.getD j (.undef,.undef)).1 ces[j].key∧al p N (es.getD j (.undef,.undef)).2 ces[j].val)
 {r:Option Nat} (hf:fL key es 0=some r) {ts:Array TypeId} {cs:Array Value} (hts0:ts[0]?=some t) (hcs0:cs[0]?=some (.map (some b))) (hcs1:cs[1]?=some ck) (ty:TypeId) :
 ∃ ces' clock',(Builtin.delete_ ts ty cs).run P w=.ok (.tuple #[]) { w with heap:=w.heap.setIfInBounds b (.map ces' clock') }∧ces'.size=(DR es r).length∧jN ces' clock' ∧
  ∀ j,(h:j<ces'.size)→al p N ((DR es r).getD j (.undef,.undef)).1 ces'[j].key∧al p N ((DR es r).getD j (.undef,.undef)).2 ces'[j].val:=by
 obtain ⟨q1,⟨out,q2,q3⟩,q4,q5⟩:=rv hfit hk hf e2 (fun j hj=>(e3 j hj).1) ces.isEmpty w
 cases r with
 | none =>
   simp only[jD] at q3
   subst q3
   refine ⟨ces,clock,?_,e2,hbn,e3⟩
   unfold Builtin.delete_
   simp[hts0,hcs0,hcs1,Sem.run_bind,run_underlying hu,Result.andThen,MapKept.run_getObj_map e1,q1,q2,MapKept.run_setObj_map _ e1]
 | some j =>
   obtain ⟨e,_,f2,rfl,f4⟩:=q3
   obtain ⟨hj,f2⟩:=List.getElem?_eq_some_iff.1 f2
   simp only[Nat.sub_zero] at hj f2
   have hj':j<ces.size:=by simpa using hj
   have hD:DR es (some j)=es.eraseIdx j:=pI _ _
   rw[hD]
   refine ⟨ces.eraseIdxIfInBounds j,clock,?_,?_,hbn.erase j,?_⟩
   · unfold Builtin.delete_
     simp only[hts0,hcs0,hcs1,Sem.run_bind,run_underlying hu,Result.andThen,MapKept.run_getObj_map e1,q1,q2,MapKept.run_setObj_map _ e1,Sem.run_pure]
   · rw[Array.eraseIdxIfInBounds,dif_pos hj',Array.size_eraseIdx,List.length_eraseIdx,if_pos wO,e2]
   · simp only[Array.eraseIdxIfInBounds,dif_pos hj']
     intro i' hi'
     rw[Array.getElem_eraseIdx]
     rw[Array.size_eraseIdx] at hi'
     have e6:(es.eraseIdx j).getD i' (.undef,.undef)=if i'<j then es.getD i' (.undef,.undef) else es.getD (i'+1) (.undef,.undef):=by
      simp only[List.getD_eq_getElem?_getD,List.getElem?_eraseIdx];split<;>rfl
     rw[e6]
     split
     · exact e3 i' wO
     · exact e3 (i'+1) wO

theorem iR {q:KK} {n m:List Int} (hn:qW q n=true) (hm:qW q m=true) (h:eB q n=eB q m):n=m:=by
 cases q with
 | num k =>
   have h1:n.length=1:=Nat.eq_of_beq_eq_true hn;have h2:m.length=1:=Nat.eq_of_beq_eq_true hm;obtain ⟨a,rfl⟩:=List.length_eq_one_iff.1 h1;obtain ⟨b,rfl⟩:=List.length_eq_one_iff.1 h2;unfold eB at h;simp at h;rw[h]
 | str k=>unfold eB at h;simpa using h
theorem Im {q:KK} {n m:List Int} (hn:qW q n=true) (hm:qW q m=true):oX (eB q n) (eB q m)=some (decide (n=m)):=by
 cases q with
 | num k =>
   have h1:n.length=1:=Nat.eq_of_beq_eq_true hn;have h2:m.length=1:=Nat.eq_of_beq_eq_true hm;obtain ⟨a,rfl⟩:=List.length_eq_one_iff.1 h1;obtain ⟨b,rfl⟩:=List.length_eq_one_iff.1 h2;show (if k=k then some (a == b) else none)=_;rw[if_pos rfl];simp only[Option.some.injEq,List.cons.injEq,and_true];rfl
 | str k =>
   have h1:n.length=k:=Nat.eq_of_beq_eq_true hn;have h2:m.length=k:=Nat.eq_of_beq_eq_true hm;show (if IntKind.i64=IntKind.i64∧n.length=m.length then some (eS n m) else none)=_;rw[if_pos ⟨rfl,by rw[h1,h2]⟩,fy]
theorem vn {q:KK} {n:List Int} (hn:qW q n=true):∀ (es:List (AV×AV)) (i:Nat),(∀ j,j<es.length→∃ m,qW q m=true∧(es.getD j (.undef,.undef)).1=eB q m) →
 ∃ r,fL (eB q n) es i=some r∧(r=none→∀ j,j<es.length→(es.getD j (.undef,.undef)).1≠eB q n)∧∀ j,r=some j→i≤j∧j-i<es.length∧(es.getD (j-i) (.undef,.undef)).1=eB q n
 | [],i,_=>⟨none,rfl,fun _ j hj=>absurd hj (by simp),fun j h=>by cases h⟩
 | (k, v)::es,i,h=>by
   obtain ⟨m,hfm,hm⟩:=h 0 (by simp);have hm:k=eB q m:=hm;subst hm;unfold fL;rw[Im hn hfm];by_cases e:n=m
   · subst e;rw[decide_eq_true rfl];exact ⟨some i,rfl,(fun x=>by cases x),fun j hj=>by cases hj;exact ⟨Nat.le_refl _,by simp,by simp⟩⟩
   · rw[decide_eq_false e];obtain ⟨r,r1,r2,r3⟩:=vn hn es (i+1) (fun j hj=>by have:=h (j+1) (by simpa using hj);simpa using this);refine ⟨r,r1,fun hr j hj=>?_,fun j hj=>?_⟩
     · cases j with
       | zero=>intro x;exact e (iR hfm hn x).symm
       | succ j=>have:=r2 hr j (by simpa using hj);simpa using this
     · obtain ⟨a1,a2,a3⟩:=r3 j hj;refine ⟨by omega,by simp;omega,?_⟩;rw[show j-i=(j-(i+1))+1 by omega];simpa using a3
theorem re.fit {q:KK} {es:List (AV×AV)} {h:List Int→Bool} {g:List Int→Int} {c:Nat} (hE:re q es h g c) {n:List Int} (hn:h n=true):qW q n=true:=(hE.all n hn).1
theorem re.find {q:KK} {es:List (AV×AV)} {h:List Int→Bool} {g:List Int→Int} {c:Nat} (hE:re q es h g c) {n:List Int} (hfn:qW q n=true) :
 ∃ r,fL (eB q n) es 0=some r∧h n=r.isSome∧∀ j,r=some j→j<es.length∧es.getD j (.undef,.undef)=(eB q n,.int .i64 (g n)):=by
 obtain ⟨r,r1,r2,r3⟩:=vn hfn es 0 (fun j hj=>by obtain ⟨m,e,e2⟩:=hE.ent j hj;exact ⟨m,hE.fit e2,by rw[e]⟩)
 refine ⟨r,r1,?_,fun j hj=>?_⟩
 · cases r with
   | none =>
     cases hn:h n with
     | false=>rfl
     | true=>obtain ⟨_,j,j1,j2⟩:=hE.all n hn;exact absurd j2 (r2 rfl j j1)
   | some j =>
     obtain ⟨_,a2,a3⟩:=r3 j rfl
     obtain ⟨m,e,hm⟩:=hE.ent (j-0) a2
     rw[e] at a3
     have:=iR (hE.fit hm) hfn a3
     subst this
     rw[hm];rfl
 · obtain ⟨_,a2,a3⟩:=r3 j hj
   simp only[Nat.sub_zero] at a2 a3
   obtain ⟨m,e,hm⟩:=hE.ent j a2
   rw[e] at a3
   have:=iR (hE.fit hm) hfn a3
   subst this
   exact ⟨a2,e⟩
theorem re.Ta {q:KK} {es:List (AV×AV)} {h:List Int→Bool} {g:List Int→Int} {c:Nat} (hE:re q es h g c) {n:List Int} {y:Int} (hfn:qW q n=true) {r:Option Nat} (hr:h n=r.isSome) (hj:∀ j,r=some j→j<es.length∧es.getD j (.undef,.undef)=(eB q n,.int .i64 (g n))) :
 re q (mq (eB q n) (.int .i64 y) es r) (fp h n true) (iy g n y) (uu (h n) c):=by
 cases r with
 | none =>
   have hn:h n=false:=hr
   have old:∀ j,j<es.length→(es++[(eB q n,AV.int .i64 y)]).getD j (.undef,.undef)=es.getD j (.undef,.undef):=fun j hj=>by simp[List.getElem?_append_left hj]
   have new:(es++[(eB q n,AV.int .i64 y)]).getD es.length (.undef,.undef)=(eB q n,AV.int .i64 y):=by simp
   have ne:∀ j,j<es.length→∀ m,(es.getD j (.undef,.undef)).1=eB q m→m≠n:=fun j hj m e=>by
    obtain ⟨m',e',hm⟩:=hE.ent j hj;rw[e'] at e;intro x;subst x;have:=iR (hE.fit hm) hfn e;subst this;rw[hn] at hm;cases hm
   rw[hn]
   refine ⟨by simp[mq,hE.len,uu],fun j hj=>?_,fun m hm=>?_,fun m hm=>?_,fun i j hi hj e=>?_⟩
   · simp only[mq,List.length_append,List.length_singleton] at hj
     simp only[mq]
     by_cases e:j<es.length
     · rw[old j e]
       obtain ⟨m,e1,e2⟩:=hE.ent j e
       have:=ne j e m (by rw[e1])
       exact ⟨m,by rw[e1,iy,if_neg this],by rw[fp,if_neg this];exact e2⟩
     · have:j=es.length:=by omega
       subst this
       exact ⟨n,by rw[new,iy,if_pos rfl],by rw[fp,if_pos rfl]⟩
   · simp only[mq,List.length_append,List.length_singleton]
     by_cases e:m=n
     · subst e;exact ⟨hfn,es.length,by omega,by rw[new]⟩
     · rw[fp,if_neg e] at hm
       obtain ⟨f,j,j1,j2⟩:=hE.all m hm
       exact ⟨f,j,by omega,by rw[old j j1];exact j2⟩
   · by_cases e:m=n
     · subst e;rw[fp,if_pos rfl] at hm;cases hm
     · rw[fp,if_neg e] at hm;rw[iy,if_neg e];exact hE.off m hm
   · simp only[mq,List.length_append,List.length_singleton] at hi hj e
     by_cases a1:i<es.length
     · by_cases a2:j<es.length
       · rw[old i a1,old j a2] at e;exact hE.nd i j a1 a2 e
       · have:j=es.length:=by omega
         subst this
         rw[old i a1,new] at e
         exact absurd rfl (ne i a1 n e)
     · have:i=es.length:=by omega
       subst this
       by_cases a2:j<es.length
       · rw[old j a2,new] at e
         exact absurd rfl (ne j a2 n e.symm)
       · omega
 | some k =>
   have hn:h n=true:=hr
   obtain ⟨hk,ek⟩:=hj k rfl
   have hU:mq (eB q n) (.int .i64 y) es (some k)=es.set k (eB q n,AV.int .i64 y):=mT _ _ _
   have at':∀ j,j<es.length→(es.set k (eB q n,AV.int .i64 y)).getD j (.undef,.undef)=if j=k then (eB q n,AV.int .i64 y) else es.getD j (.undef,.undef):=fun j hj=>by
    by_cases e:j=k
    · subst e;simp[hj]
    · rw[if_neg e];simp[List.getElem?_set_ne (Ne.symm e)]
   have key:∀ j,j<es.length→((es.set k (eB q n,AV.int .i64 y)).getD j (.undef,.undef)).1=(es.getD j (.undef,.undef)).1:=fun j hj=>by
    rw[at' j hj];split
    · rename_i e;subst e;rw[ek]
    · rfl
   rw[hU,hn]
   refine ⟨by simp[hE.len,uu],fun j hj=>?_,fun m hm=>?_,fun m hm=>?_,fun i j hi hj e=>?_⟩
   · simp only[List.length_set] at hj
     rw[at' j hj]
     by_cases e:j=k
     · rw[if_pos e];exact ⟨n,by rw[iy,if_pos rfl],by rw[fp,if_pos rfl]⟩
     · rw[if_neg e]
       obtain ⟨m,e1,e2⟩:=hE.ent j hj
       have:m≠n:=fun x=>by
        subst x;exact e (hE.nd j k (by assumption) hk (by rw[e1,ek]))
       exact ⟨m,by rw[e1,iy,if_neg this],by rw[fp,if_neg this];exact e2⟩
   · simp only[List.length_set]
     have:h m=true:=by
      by_cases e:m=n
      · subst e;exact hn
      · rw[fp,if_neg e] at hm;exact hm
     obtain ⟨f,j,j1,j2⟩:=hE.all m this
     exact ⟨f,j,j1,by rw[key j j1];exact j2⟩
   · by_cases e:m=n
     · subst e;rw[fp,if_pos rfl] at hm;cases hm
     · rw[fp,if_neg e] at hm;rw[iy,if_neg e];exact hE.off m hm
   · simp only[List.length_set] at hi hj
     rw[key i hi,key j hj] at e
     exact hE.nd i j hi hj e
theorem re.del {q:KK} {es:List (AV×AV)} {h:List Int→Bool} {g:List Int→Int} {c:Nat} (hE:re q es h g c) {n:List Int} (hfn:qW q n=true) {r:Option Nat} (hr:h n=r.isSome) (hj:∀ j,r=some j→j<es.length∧es.getD j (.undef,.undef)=(eB q n,.int .i64 (g n))) :
 re q (DR es r) (fp h n false) (iy g n 0) (xM (h n) c):=by
 cases r with
 | none =>
   have hn:h n=false:=hr
   have e1:fp h n false=h:=by         funext i;unfold fp;split
                                      · rename_i e;rw[e,hn]
                                      · rfl
   have e2:iy g n 0=g:=by         funext i;unfold iy;split
                                  · rename_i e;rw[e,hE.off n hn]
                                  · rfl
   rw[e1,e2,hn];exact hE
 | some k =>
   have hn:h n=true:=hr
   obtain ⟨hk,ek⟩:=hj k rfl
   have hD:DR es (some k)=es.eraseIdx k:=pI _ _
   have hl:(es.eraseIdx k).length=es.length-1:=by rw[List.length_eraseIdx,if_pos hk]
   have at':∀ j,(es.eraseIdx k).getD j (.undef,.undef)=if j<k then es.getD j (.undef,.undef) else es.getD (j+1) (.undef,.undef):=fun j=>by
    simp only[List.getD_eq_getElem?_getD,List.getElem?_eraseIdx];split<;>rfl
   have up:∀ j,j<es.length-1→∃ j',j'<es.length∧j'≠k∧(es.eraseIdx k).getD j (.undef,.undef)=es.getD j' (.undef,.undef)∧(j'=if j<k then j else j+1):=fun j hj=>by
    by_cases e:j<k
    · exact ⟨j,by omega,by omega,by rw[at',if_pos e],by rw[if_pos e]⟩
    · exact ⟨j+1,by omega,by omega,by rw[at',if_neg e],by rw[if_neg e]⟩
   have ne:∀ j m,j<es.length→j≠k→(es.getD j (.undef,.undef)).1=eB q m→m≠n:=fun j m hj hjk e x=>by
    subst x;exact hjk (hE.nd j k (by assumption) hk (by rw[e,ek]))
   rw[hD,hn]
   refine ⟨by rw[hl,hE.len];rfl,fun j hj=>?_,fun m hm=>?_,fun m hm=>?_,fun i j hi hj e=>?_⟩
   · rw[hl] at hj
     obtain ⟨j',a1,a2,a3,_⟩:=up j hj
     rw[a3]
     obtain ⟨m,e1,e2⟩:=hE.ent j' a1
     have:=ne j' m a1 a2 (by rw[e1])
     exact ⟨m,by rw[e1,iy,if_neg this],by rw[fp,if_neg this];exact e2⟩
   · have hmn:m≠n:=fun x=>by subst x;rw[fp,if_pos rfl] at hm;cases hm
     rw[fp,if_neg hmn] at hm
     obtain ⟨f,j,j1,j2⟩:=hE.all m hm
     have hjk:j≠k:=fun x=>by subst x;rw[ek] at j2;exact hmn (iR hfn f j2).symm
     refine ⟨f,?_⟩
     rw[hl]
     by_cases e:j<k
     · exact ⟨j,by omega,by rw[at',if_pos e];exact j2⟩
     · exact ⟨j-1,by omega,by rw[at',if_neg wO,show j-1+1=j by omega];exact j2⟩
   · by_cases e:m=n
     · subst e;rw[iy,if_pos rfl]
     · rw[fp,if_neg e] at hm;rw[iy,if_neg e];exact hE.off m hm
   · rw[hl] at hi hj
     obtain ⟨i',a1,a2,a3,a4⟩:=up i hi
     obtain ⟨j',b1,b2,b3,b4⟩:=up j hj
     rw[a3,b3] at e
     have:=hE.nd i' j' a1 b1 e
     rw[this] at a4
     rw[b4] at a4
     split at a4<;>split at a4<;>omega
theorem wH {q:KK} {k:AV} {n:List Int} (h:uH q k=some n):k=eB q n∧qW q n=true:=by
 unfold uH at h;split at h
 · split at h
   · rename_i e;cases h;subst e;exact ⟨rfl,rfl⟩
   · cases h
 · split at h
   · rename_i e;cases h;exact ⟨rfl,e⟩
   · cases h
 · cases h
theorem CU {x:AV} {n:Int} (h:yP x=some n):x=.int .i64 n:=by
 unfold yP at h;split at h
 · cases h;rfl
 · cases h
theorem zp {p:aF} {M:Mu} {H:ab} {w:World} (hH:bj p M H w) {d i b o t:Nat} {q:KK} {f f':List Int→Bool} {g g':List Int→Int} {c c':Nat} (hg:az H d i=(0,.fmap q f g c)) (hl:aL H d=false) (hmu:M d i 0=some (b,o,t))
 {es':List (AV×AV)} (hE:re q es' f' g' c') {ces':Array MapEntry} {clock':Nat} {v:AV} {cv:Value} (hs:ces'.size=es'.length) (hbn:jN ces' clock') (hv:∀ j,(h:j<ces'.size)→al p (M.up d) (es'.getD j (.undef,.undef)).1 ces'[j].key∧al p (M.up d) (es'.getD j (.undef,.undef)).2 ces'[j].val)
 (hr:∀ N,al p N v cv):eI p M H nx v (.set d i (0,.fmap q f' g' c')) cv w { w with heap:=w.heap.setIfInBounds b (.map ces' clock') }:=by
 obtain ⟨b',o',t',k1,k2,_⟩:=hH.live _ _ _ _ hg (by simp)
 rw[hmu] at k1
 simp only[nP] at k1
 obtain ⟨rfl,rfl,rfl⟩:=k1
 have hlt:=k2.lt (by simp)
 exact ⟨0,.fmap q f g c,b,o,t,b,o,t,hg,by simp,hl,hmu,by simp,⟨es',hE,ces',clock',by simp[hlt],hs,hbn,hv⟩,zw _ _ _,.inl rfl,hr _,.inl ⟨rfl,rfl,rfl,rfl⟩⟩
theorem oO {p:aF} {M:Mu} {H:ab} {w:World} (hH:bj p M H w) {d i b o t:Nat} {q:KK} {f:List Int→Bool} {g:List Int→Int} {c:Nat} (hg:az H d i=(0,.fmap q f g c)) (hmu:M d i 0=some (b,o,t)) :
 ∃ es,re q es f g c∧∃ ces clock,w.heap[b]?=some (.map ces clock)∧ces.size=es.length∧jN ces clock∧∀ j,(h:j<ces.size)→al p (M.up d) (es.getD j (.undef,.undef)).1 ces[j].key∧al p (M.up d) (es.getD j (.undef,.undef)).2 ces[j].val:=by
 obtain ⟨b',o',t',k1,k2,_⟩:=hH.live _ _ _ _ hg (by simp)
 rw[hmu] at k1
 simp only[nP] at k1
 obtain ⟨rfl,rfl,rfl⟩:=k1
 exact k2

theorem tY {P:Program} {H:ab} {t:TypeId} {m key x:AV} {δ:Delta} (h:jC P H t m key x=some δ) {p:aF} {M:Mu} {cm ck cx:Value} (hm:al p M m cm) (hk:al p M key ck) (hx:al p M x cx) {w:World} (hH:bj p M H w)
 {v:AV} {cv:Value} (hv:∀ N,al p N v cv) :
 ∃ w',(Instr.mapUpdate t cm ck cx).run P w=.ok () w'∧eI p M H nx v δ cv w w':=by
 unfold jC at h
 cases hu:P.underlying t with
 | none=>rw[hu] at h;simp at h
 | some d =>
   rw[hu] at h
   cases d<;>try (simp at h;done)
   rename_i kt et
   cases hm<;>try (simp at h;done)
   rename_i d i b o tt hmu
   simp only at h
   split at h
   · simp at h
   · rename_i hlk
     split at h
     · rename_i hfit
       split at h
       · rename_i q f g c hg
         cases hkn:uH q key with
         | none=>rw[hkn] at h;simp at h
         | some n =>
           cases hxn:yP x with
           | none=>rw[hkn,hxn] at h;simp at h
           | some y =>
             rw[hkn,hxn] at h
             simp only[Option.some.injEq] at h
             subst h
             obtain ⟨this,hfit2⟩:=wH hkn
             subst this
             have:=CU hxn
             subst this
             obtain ⟨es,hE,ces,clock,e1,e2,hbn,e3⟩:=oO hH hg hmu
             obtain ⟨r,r1,r2,r3⟩:=hE.find hfit2
             obtain ⟨ces',clock',k1,k2,k3,k4⟩:=Ap (x:=.undef) hu hfit hk (hx.bp p (M.up d)) e1 e2 hbn e3 r1
             exact ⟨_,k1,zp hH hg (by simpa using hlk) hmu (hE.Ta hfit2 r2 r3) k2 k3 k4 hv⟩
       · rename_i es hg
         obtain ⟨ces,clock,e1,e2,hbn,e3⟩:=CO hH hg hmu
         cases hf:fL key es 0 with
         | none=>rw[hf] at h;simp at h
         | some r =>
           rw[hf] at h
           obtain ⟨ces',clock',k1,k2,k3,k4⟩:=Ap (x:=.undef) hu hfit hk hx.dn e1 e2 hbn e3 hf
           refine ⟨_,k1,?_⟩
           cases r<;>simp only[Option.some.injEq] at h<;>subst h<;>exact Dg hH hg (by simpa using hlk) hmu k2 k3 k4 hv
       · simp at h
     · simp at h

theorem AQ {P:Program} {H:ab} {t:TypeId} {m key v:AV} {δ:Delta} (h:oG P H t m key=some (v,δ)) {p:aF} {M:Mu} {cm ck:Value} (hm:al p M m cm) (hk:al p M key ck) {w:World} (hH:bj p M H w)
 {ts:Array TypeId} {cs:Array Value} (hts0:ts[0]?=some t) (hcs0:cs[0]?=some cm) (hcs1:cs[1]?=some ck) (ty:TypeId) :
 ∃ cv w',(Builtin.delete_ ts ty cs).run P w=.ok cv w'∧eI p M H nx v δ cv w w':=by
 unfold oG at h
 cases hu:P.underlying t with
 | none=>rw[hu] at h;simp at h
 | some d =>
   rw[hu] at h
   cases d<;>try (simp at h;done)
   rename_i kt et
   cases hm<;>try (simp at h;done)
   rename_i d i b o tt hmu
   simp only at h
   split at h
   · simp at h
   · rename_i hlk
     have hv:∀ N,al p N (.tup []) (.tuple #[]):=fun N=>.tup rfl (fun j hj=>absurd hj (by simp))
     split at h
     · rename_i hfit
       split at h
       · rename_i q f g c hg
         cases hkn:uH q key with
         | none=>rw[hkn] at h;simp at h
         | some n =>
           rw[hkn] at h
           simp only[nP] at h
           obtain ⟨rfl,rfl⟩:=h
           obtain ⟨this,hfit2⟩:=wH hkn
           subst this
           obtain ⟨es,hE,ces,clock,e1,e2,hbn,e3⟩:=oO hH hg hmu
           obtain ⟨r,r1,r2,r3⟩:=hE.find hfit2
           obtain ⟨ces',clock',k1,k2,k3,k4⟩:=xP hu hfit hk e1 e2 hbn e3 r1 hts0 hcs0 hcs1 ty
           exact ⟨_,_,k1,zp hH hg (by simpa using hlk) hmu (hE.del hfit2 r2 r3) k2 k3 k4 hv⟩
       · rename_i es hg
         obtain ⟨ces,clock,e1,e2,hbn,e3⟩:=CO hH hg hmu
         cases hf:fL key es 0 with
         | none=>rw[hf] at h;simp at h
         | some r =>
           rw[hf] at h
           obtain ⟨ces',clock',k1,k2,k3,k4⟩:=xP hu hfit hk e1 e2 hbn e3 hf hts0 hcs0 hcs1 ty
           refine ⟨_,_,k1,?_⟩
           cases r<;>simp only[nP] at h<;>obtain ⟨rfl,rfl⟩:=h<;>exact Dg hH hg (by simpa using hlk) hmu k2 k3 k4 hv
       · simp at h
     · simp at h

theorem yB {P:Program} {H:ab} {t kt et:TypeId} {m key v:AV} {ok:Bool} (hu:P.underlying t=some (.map kt et)) (hfit:jG P kt key=true) {q:KK} {f:List Int→Bool} {g:List Int→Int} {c:Nat} (hfm:vo H m=some (q,f,g,c))
 (h:(match uH q key,(cX P et).bind yP with
   | some n,some 0=>some (if ok then AV.tup [.int .i64 (g n),.bool (f n)] else .int .i64 (g n))
   | _,_=>none)=some v) {p:aF} {M:Mu} {cm ck:Value} (hm:al p M m cm) (hk:al p M key ck) {w:World} (hH:bj p M H w) :
 ∃ c,(Instr.lookup t cm ck ok).run P w=.ok c w∧al p M v c:=by
 unfold vo at hfm
 cases hm<;>try (simp at hfm;done)
 rename_i d i b o tt hmu
 simp only at hfm
 split at hfm
 · rename_i q' f' g' c' hg
   simp only[nP] at hfm
   obtain ⟨rfl,rfl,rfl,rfl⟩:=hfm
   split at h
   · rename_i n hkn hz0
     simp only[Option.some.injEq] at h
     subst h
     obtain ⟨this,hfit2⟩:=wH hkn
     subst this
     cases hz:cX P et with
     | none=>rw[hz] at hz0;simp at hz0
     | some z =>
       rw[hz] at hz0
       have:=CU (x:=z) (n:=0) hz0
       subst this
       obtain ⟨cz,hcz,hrz⟩:=dB hz
       have hcz':al p M (.int .i64 0) cz:=hcz ▸ dD p M cz
       obtain ⟨es,hE,ces,clock,e1,e2,hbn,e3⟩:=oO hH hg hmu
       obtain ⟨r,r1,r2,r3⟩:=hE.find hfit2
       obtain ⟨q1,⟨out,q2,q3⟩,_,_⟩:=rv hfit hk r1 e2 (fun j hj=>(e3 j hj).1) ces.isEmpty w
       cases r with
       | none =>
         have hn:f' n=false:=r2
         simp only[jD] at q3
         subst q3
         rw[hn,hE.off n hn]
         refine ⟨if ok then .tuple #[cz,.bool false] else cz,?_,?_⟩
         · unfold Instr.lookup
           simp[Sem.run_bind,run_underlying hu,Result.andThen,Sem.run_pure,MapKept.run_getObj_map e1,q1,q2,hrz]
         · cases ok
           · exact hcz'
           · exact Jp hcz'
       | some j =>
         have hn:f' n=true:=r2
         obtain ⟨hj1,hj2⟩:=r3 j rfl
         obtain ⟨e,_,f2,rfl,f4⟩:=q3
         obtain ⟨hj,f2⟩:=List.getElem?_eq_some_iff.1 f2
         simp only[Nat.sub_zero] at hj f2
         have e4:ces[j]'wO=e:=by simpa using f2
         have hv:=(e3 j wO).2
         rw[hj2,e4] at hv
         have hv:al p M (.int .i64 (g' n)) e.val:=hv.bp _ _
         rw[hn]
         refine ⟨if ok then .tuple #[e.val,.bool true] else e.val,?_,?_⟩
         · unfold Instr.lookup
           simp[Sem.run_bind,run_underlying hu,Result.andThen,Sem.run_pure,MapKept.run_getObj_map e1,q1,q2,hrz]
         · cases ok
           · exact hv
           · exact Jp hv
   · cases h
 · cases hfm
theorem Bi {P:Program} {H:ab} {t:TypeId} {m key v:AV} {ok:Bool} (h:ry P H t m key ok=some v) {p:aF} {M:Mu} {cm ck:Value} (hm:al p M m cm) (hk:al p M key ck) {w:World} (hH:bj p M H w) :
 ∃ c,(Instr.lookup t cm ck ok).run P w=.ok c w∧al p M v c:=by
 unfold ry at h
 cases hu:P.underlying t with
 | none=>rw[hu] at h;simp at h
 | some d =>
   rw[hu] at h
   cases d<;>try (simp at h;done)
   rename_i kt et
   simp only at h
   split at h
   · rename_i hfit
     split at h
     · rename_i q f g c hfm
       exact yB hu hfit hfm h hm hk hH
     rename_i hfm0
     clear hfm0
     cases hent:vj H m with
     | none=>rw[hent] at h;simp at h
     | some de =>
       obtain ⟨d,es⟩:=de
       cases hz:cX P et with
       | none=>rw[hent,hz] at h;simp at h
       | some z =>
         rw[hent,hz] at h
         simp only at h
         obtain ⟨cz,hcz,hrz⟩:=dB hz
         cases hf:fL key es 0 with
         | none=>rw[hf] at h;simp at h
         | some r =>
           rw[hf] at h
           have core:∃ ces:Array MapEntry,ces.size=es.length∧(∀ j,(h:j<ces.size)→al p (M.up d) (es.getD j (.undef,.undef)).1 ces[j].key∧al p (M.up d) (es.getD j (.undef,.undef)).2 ces[j].val) ∧
            (cm=.map none∧ces=#[]∨∃ b clock,cm=.map (some b)∧w.heap[b]?=some (.map ces clock)):=by
            unfold vj at hent
            cases hm<;>try (simp at hent;done)
            · simp only[nP] at hent
              obtain ⟨rfl,rfl⟩:=hent
              exact ⟨#[],rfl,fun j hj=>absurd hj (by simp),.inl ⟨rfl,rfl⟩⟩
            · rename_i d' i b o tt hmu
              simp only at hent
              split at hent
              · rename_i es' hg
                simp only[nP] at hent
                obtain ⟨rfl,rfl⟩:=hent
                obtain ⟨b',o',t',k1,k2,_⟩:=hH.live _ _ _ _ hg (by simp)
                rw[hmu] at k1
                simp only[nP] at k1
                obtain ⟨rfl,rfl,rfl⟩:=k1
                obtain ⟨ces,clock,e1,e2,_,e3⟩:=k2
                exact ⟨ces,e2,e3,.inr ⟨b,clock,rfl,e1⟩⟩
              · simp at hent
           obtain ⟨ces,e2,e3,hcm⟩:=core
           obtain ⟨q1,⟨out,q2,q3⟩,_,_⟩:=rv hfit hk hf e2 (fun j hj=>(e3 j hj).1) ces.isEmpty w
           have hfin:∃ cv,al p M v (if ok then .tuple #[cv,.bool r.isSome] else cv)∧(r=none→cv=cz)∧(∀ j,r=some j→out=some (j,cv)):=by
            cases r with
            | none =>
              simp only[Option.some.injEq] at h;subst h;refine ⟨cz,?_,fun _=>rfl,fun j e=>by simp at e⟩;have:=hcz ▸ dD p M cz;cases ok
              · exact this
              · exact Jp this
            | some j =>
              obtain ⟨e,_,f2,f3,_⟩:=q3;obtain ⟨hj,f2⟩:=List.getElem?_eq_some_iff.1 f2;simp only[Nat.sub_zero] at hj f2;refine ⟨e.val,?_,fun x=>by simp at x,fun j' e'=>by simp at e';subst e';exact f3⟩;simp only[Option.some.injEq] at h;subst h;have:=(e3 j (by simpa using hj)).2;rw[← vG] at this;have e4:ces[j]'(by simpa using hj)=e:=by simpa using f2
              rw[e4] at this;cases ok
              · exact this.up
              · exact Jp this.up
           obtain ⟨cv,hv,g1,g2⟩:=hfin
           refine ⟨_,?_,hv⟩
           have q2':=q2
           rcases hcm with ⟨rfl,rfl⟩ | ⟨b,clock,rfl,hb⟩
           all_goals
            unfold Instr.lookup
            cases r with
            | none =>
              simp only[jD] at q3
              subst q3
              have:=g1 rfl
              subst this
              first
               | simp[Sem.run_bind,run_underlying hu,Result.andThen,Sem.run_pure,MapKept.run_getObj_map hb,q1,q2,hrz]
               | (simp at q1 q2;simp[Sem.run_bind,run_underlying hu,Result.andThen,Sem.run_pure,q1,q2,hrz])
            | some j =>
              have:=g2 j rfl
              subst this
              first
               | simp[Sem.run_bind,run_underlying hu,Result.andThen,Sem.run_pure,MapKept.run_getObj_map hb,q1,q2,hrz]
               | (simp at q1 q2;simp[Sem.run_bind,run_underlying hu,Result.andThen,Sem.run_pure,q1,q2,hrz])
   · simp at h


end Go.Eng
