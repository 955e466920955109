/- The engine, part F: maps. -/
import Derived.Test.YtgphpjdchnfjlaaDoorV6EngE
import Derived.WideKeyRuns
set_option linter.unusedVariables false
set_option linter.unusedSimpArgs false
namespace Go.Eng
variable {nx:Nat}

theorem sb         {P:Program} {k:IntKind} (em:Bool):∀ (n:Nat) (t:TypeId) (s:Nat),cr P n t=some s→∀ d,n≤d→∀ (xs:List Int),xs.length=s→∀ w,
 (Instr.checkKey em d t (xr P t k xs)).run P w=.ok () w
 | 0,t,s,h=>by simp[cr] at h
 | n + 1, t, s,h=>by
   intro d hd xs hx w;obtain ⟨d,rfl⟩:∃ q,d=q+1:=⟨d-1,by omega⟩
   have ih:=fun t s h=>sb (P:=P) (k:=k) em n t s h d wO;simp only[cr] at h;cases hu:P.underlying t with
   | none=>rw[hu] at h;simp at h
   | some dd =>
     rw[hu] at h;cases dd<;>try (simp at h;done)
     case int k' =>
      have hag:fc P t=some false:=by simp[fc,hu]
      simp[xr,hag,Instr.checkKey,Sem.run_bind,run_underlying hu,Result.andThen]
     case array len e =>
      have hag:fc P t=some true:=by simp[fc,hu]
      simp only at h
      cases hf:cr P n e with
      | none=>rw[hf] at h;simp at h
      | some q =>
        rw[hf] at h
        simp only at h
        split at h
        · simp only[Option.some.injEq] at h
          subst h
          have hse:=(kO hf).1
          simp only[xr,hag,if_true]
          rw[Instr.checkKey]
          simp only[Sem.run_bind,run_underlying hu,Result.andThen_ok]
          simp only[Std.Legacy.Range.forIn_eq_forIn_range',Std.Legacy.Range.size,Nat.sub_zero,Nat.add_one_sub_one,Nat.div_one]
          have each:∀ j ∈ List.range' 0 len,j*q+q≤xs.length:=by
           intro j hj;simp at hj;rw[hx];have:=Nat.mul_le_mul_right q (show j+1≤len by omega);rw[Nat.add_mul] at this;omega
          clear hx
          generalize List.range' 0 len=is at each
          induction is with
          | nil=>simp
          | cons j is ih2 =>
            have hj:=each j (by simp)
            have hlx:((xs.drop (j*q)).take q).length=q:=by simp;omega
            have p2:=ih e q hf _ hlx w
            simp only[List.forIn_cons,Sem.run_bind,aO hse,Result.andThen_ok,iP hf hj,p2,Sem.run_pure]
            exact ih2 (fun y hy=>each y (by simp[hy]))
        · simp at h
     case struct fs =>
      have hag:fc P t=some true:=by simp[fc,hu]
      simp only at h
      split at h
      · simp at h
      · cases hf : fT P (cr P n) 0 fs.toList with
        | none=>rw[hf] at h;simp at h
        | some q =>
          rw[hf] at h
          simp only at h
          split at h
          · simp only[Option.some.injEq] at h
            subst h
            simp only[xr,hag,if_true]
            rw[Instr.checkKey]
            simp only[Sem.run_bind,run_underlying hu,Result.andThen_ok]
            rw[← Array.forIn_toList]
            have go:∀ (L:List Field) (off:Nat),fT P (cr P n) off L=some q→off≤q∧(forIn (m:=Sem) L PUnit.unit (fun f _=>do
             if f.name ≠ "_" then Instr.checkKey em d f.type (← part f.type (xs.map (Value.int k)).toArray f.offset)
             pure (ForInStep.yield PUnit.unit))).run P w=.ok PUnit.unit w:=by
             intro L
             induction L with
             | nil=>intro off h0;simp[fT] at h0;exact ⟨by omega,by simp⟩
             | cons f L ih2 =>
               intro off h0
               simp only[fT] at h0
               split at h0
               · rename_i hf0
                 simp only[Bool.and_eq_true,bne_iff_ne,ne_eq,Nat.beq_eq] at hf0
                 obtain ⟨hne,hoff⟩:=hf0
                 cases hs:cr P n f.type with
                 | none=>rw[hs] at h0;simp at h0
                 | some s =>
                   rw[hs] at h0
                   simp only at h0
                   obtain ⟨hle,hrun⟩:=ih2 _ h0
                   refine ⟨by omega,?_⟩
                   have hlx:((xs.drop off).take s).length=s:=by simp;omega
                   have p2:=ih f.type s hs _ hlx w
                   simp only[List.forIn_cons,Sem.run_bind,hne,ne_eq,not_false_eq_true,if_true,Result.andThen_ok,hoff,iP hs (show off+s≤xs.length by omega),p2,Sem.run_pure]
                   exact hrun
               · simp at h0
            have:=(go fs.toList 0 hf).2
            simp only[Array.forIn_toList] at this ⊢
            rw[this]
            rfl
          · simp at h

def jK (ces:List MapEntry) (i:Nat) (ck:Value) (r:Option Nat) (out:Option (Nat×Value)):Prop :=
 match r with
 | none=>out=none
 | some j=>∃ e,i≤j∧ces[j-i]?=some e∧out=some (j,e.val)∧e.key=ck

theorem jK.step {ces:List MapEntry} {e:MapEntry} {i:Nat} {ck:Value} {r:Option Nat} {out:Option (Nat×Value)} (h:jK ces (i+1) ck r out):jK (e::ces) i ck r out:=by
 cases r with
 | none=>exact h
 | some j =>
   obtain ⟨x,h1,h2,h3,h4⟩:=h;refine ⟨x,by omega,?_,h3,h4⟩;obtain ⟨q,hq⟩:∃ q,j-i=q+1:=⟨j-i-1,by omega⟩
   rw[hq,List.getElem?_cons_succ];rw[← h2];congr 1;omega

theorem qp {p:aG} {M:Mu} {k kk:IntKind} {n:Int}:∀ (es:List (AV×AV)) (ces:List MapEntry) (i:Nat) (r:Option Nat),fS (.int k n) es i=some r→ces.length=es.length →
 (∀ j e,ces[j]?=some e→al p M (es.getD j (.undef,.undef)).1 e.key)→∃ out,Instr.findNow (.int kk) (.int k n) ces i=some out∧jK ces i (.int k n) r out
 | [],ces,i,r,h,hl,_=>by
   have:ces=[]:=List.length_eq_zero_iff.1 (by simpa using hl);subst this;simp only[fS,Option.some.injEq] at h;subst h;exact ⟨none,rfl,rfl⟩
 | (a, v)::es,ces,i,r,h,hl,hv=>by
   cases ces with
   | nil=>simp at hl
   | cons e ces =>
     have h0:=hv 0 e rfl;simp only[List.getD_cons_zero] at h0;simp only[fS] at h;cases hk:oZ (.int k n) a with
     | none=>rw[hk] at h;simp at h
     | some b =>
       rw[hk] at h;cases a<;>try (simp[oZ] at hk;done)
       rename_i k' m;have hek:=h0.ofInt;simp only[oZ] at hk;split at hk
       · rename_i hkk;subst hkk;simp only[Option.some.injEq] at hk;cases b with
         | true =>
           simp only[Option.some.injEq] at h;subst h;have hnm:n=m:=by simpa using hk
           subst hnm;refine ⟨some (i,e.val),by simp[Instr.findNow,Instr.sameNow,hek],e,Nat.le_refl _,by simp,rfl,hek⟩
         | false =>
           simp only at h;obtain ⟨out,k1,k2⟩:=qp (kk:=kk) es ces (i+1) r h (by simpa using hl) (fun j x hx=>by have:=hv (j+1) x (by simpa using hx);simpa using this);refine ⟨out,?_,k2.step⟩;simp[Instr.findNow,Instr.sameNow,hek,hk,k1]
       · simp at hk

theorem lY {P:Program} {p:aG} {M:Mu} {t:TypeId} {k:IntKind} {l:List Int} (hf:cr P 20 t=some l.length) (hag:fc P t=some true) (w:World):∀ (es:List (AV×AV)) (ces:List MapEntry) (i:Nat) (r:Option Nat),fS (.agg (.I k l)) es i=some r→ces.length=es.length →
 (∀ j e,ces[j]?=some e→al p M (es.getD j (.undef,.undef)).1 e.key)→∃ out,(Instr.findAsking t (.agg (l.map (Value.int k)).toArray) ces i).run P w=.ok out w∧jK ces i (.agg (l.map (Value.int k)).toArray) r out
 | [],ces,i,r,h,hl,_=>by
   have:ces=[]:=List.length_eq_zero_iff.1 (by simpa using hl);subst this;simp only[fS,Option.some.injEq] at h;subst h;exact ⟨none,rfl,rfl⟩
 | (a, v)::es,ces,i,r,h,hl,hv=>by
   cases ces with
   | nil=>simp at hl
   | cons e ces =>
     have h0:=hv 0 e rfl;simp only[List.getD_cons_zero] at h0;simp only[fS] at h;cases hk:oZ (.agg (.I k l)) a with
     | none=>rw[hk] at h;simp at h
     | some b =>
       rw[hk] at h;cases a<;>try (simp[oZ] at hk;done)
       rename_i row;cases row<;>try (simp[oZ] at hk;done)
       rename_i k' m;have hek:=j4 h0;simp only[oZ] at hk;split at hk
       · rename_i hkk;obtain ⟨rfl,hlen⟩:=hkk;simp only[Option.some.injEq] at hk;have heq:=ri (P:=P) (k:=k) 20 t l.length hf 10000 wO l m rfl hlen.symm w;simp only[xr,hag,if_true,hk] at heq;have heq':(Op.equal t (.agg (l.map (Value.int k)).toArray) e.key).run P w=.ok b w:=by rw[hek];exact heq
         cases b with
         | true =>
           simp only[Option.some.injEq] at h;subst h;rw[fF] at hk;have hnm:l=m:=by simpa using hk
           subst hnm;exact ⟨some (i,e.val),by simp[Instr.findAsking,Sem.run_bind,heq',Result.andThen],e,Nat.le_refl _,by simp,rfl,hek⟩
         | false =>
           simp only at h;obtain ⟨out,k1,k2⟩:=lY hf hag w es ces (i+1) r h (by simpa using hl) (fun j x hx=>by have:=hv (j+1) x (by simpa using hx);simpa using this);refine ⟨out,?_,k2.step⟩;simp[Instr.findAsking,Sem.run_bind,heq',Result.andThen,k1]
       · simp at hk

theorem po (k:IntKind) (n:Int) (d:Nat):Instr.sameBits d (.int k n) (.int k n)=true:=by
 cases d<;>simp[Instr.sameBits]
theorem uT (k:IntKind) (l:List Int):Instr.sameBits 10000 (.agg (l.map (Value.int k)).toArray) (.agg (l.map (Value.int k)).toArray)=true:=by
 show Instr.sameBits (9999+1) _ _=true;simp only[Instr.sameBits,beq_self_eq_true,Bool.true_and,List.all_eq_true];intro q hq;obtain ⟨i,hi,e⟩:=List.getElem_of_mem hq;rw[List.getElem_zip] at e;rw[← e];simp only[List.getElem_map];exact po _ _ _

theorem rr {P:Program} {kt:TypeId} {key:AV} (hfit:jR P kt key=true) {p:aG} {M N:Mu} {ck:Value} (hk:al p M key ck) {es:List (AV×AV)} {ces:Array MapEntry} {r:Option Nat}
 (hf:fS key es 0=some r) (hl:ces.size=es.length) (hv:∀ j,(h:j<ces.size)→al p N (es.getD j (.undef,.undef)).1 ces[j].key) (em:Bool) (w:World) :
 (Instr.checkKey em 10000 kt ck).run P w=.ok () w∧(∃ out,(Instr.findKey kt ck ces.toList).run P w=.ok out w∧jK ces.toList 0 ck r out)∧(Instr.keyThatStays ck ck).run P w=.ok ck w∧∀ N',al p N' key ck:=by
 have hv':∀ j e,ces.toList[j]?=some e→al p N (es.getD j (.undef,.undef)).1 e.key:=by
  intro j e he;obtain ⟨hj,rfl⟩:=List.getElem?_eq_some_iff.1 he;exact hv j (by simpa using hj)
 unfold jR at hfit
 cases hu:P.underlying kt with
 | none=>simp[hu] at hfit
 | some d =>
   cases key<;>try (cases d<;>simp[hu] at hfit;done)
   case int k n =>
    cases d<;>try (simp[hu] at hfit;done)
    rename_i kk
    have hck:=hk.ofInt
    subst hck
    refine ⟨?_,?_,by simp[Instr.keyThatStays,po],fun N'=>.int _ _⟩
    · show (Instr.checkKey em (9999+1) kt _).run P w=_
      rw[Instr.checkKey]
      simp only[Sem.run_bind,run_underlying hu,Result.andThen,Sem.run_pure]
    · obtain ⟨out,k1,k2⟩:=qp (kk:=kk) es ces.toList 0 r hf (by simpa using hl) hv'
      exact ⟨out,MapKept.run_findKey hu k1,k2⟩
   case agg row =>
    cases row<;>try (cases d<;>simp[hu] at hfit;done)
    rename_i k l
    have hck:=j4 hk
    subst hck
    have hfl:cr P 20 kt=some l.length:=by cases d<;>simp[hu] at hfit<;>exact hfit
    have hag:fc P kt=some true:=by cases d<;>simp[hu] at hfit<;>simp[fc,hu]
    have hwide:(match P.underlying kt with | some (.array _ _) | some (.struct _)=>true | _=>false)=true:=by cases d<;>simp[hu] at hfit<;>simp[hu]
    refine ⟨?_,?_,by simp[Instr.keyThatStays,uT],fun N'=>?_⟩
    · have:=sb (P:=P) (k:=k) em 20 kt _ hfl 10000 wO l rfl w
      simpa[xr,hag] using this
    · obtain ⟨out,k1,k2⟩:=lY hfl hag w es ces.toList 0 r hf (by simpa using hl) hv'
      exact ⟨out,by rw[run_findKey_eq w hwide];exact k1,k2⟩
    · cases hk with
      | agg hs h1 hv=>exact .agg hs h1 (fun j hj=>(hv j hj).bu _ _)

theorem vE:∀ (es:List (AV×AV)) (i:Nat),nU es i=(es.getD i (.undef,.undef)).2
 | [],i=>by simp[nU]
 | e::es,0=>by simp[nU]
 | e::es,i+1=>by simp[nU,vE es i]
theorem mY:∀ (es:List (AV×AV)) (i:Nat) (x:AV×AV),og es i x=es.set i x
 | [],i,x=>by simp[og]
 | e::es,0,x=>by simp[og]
 | e::es,i+1,x=>by simp[og,mY es i x]
theorem pH:∀ (es:List (AV×AV)) (i:Nat),ny es i=es.eraseIdx i
 | [],i=>by simp[ny]
 | e::es,0=>by simp[ny]
 | e::es,i+1=>by simp[ny,pH es i]

theorem JG {p:aG} {M:Mu} {v:AV} {c:Value} {b:Bool} (h:al p M v c):al p M (.tup [v,.bool b]) (.tuple #[c,.bool b]):=by
 refine .tup rfl (fun j hj=>?_);match j,hj with
 | 0,_=>exact h
 | 1,_=>exact .bool b

theorem zt (w:World) (b:Nat) (x:Obj):dB (fun y=>y≠b) w { w with heap:=w.heap.setIfInBounds b x } :=
 ⟨rfl,rfl,rfl,by simp,fun y _ hy=>by simp[Array.getElem?_setIfInBounds_ne (Ne.symm hy)]⟩

theorem jZ.push {ces:Array MapEntry} {clock:Nat} (h:jZ ces clock) (k v:Value):jZ (ces.push { key:=k,val:=v,born:=clock }) (clock+1):=by
 refine ⟨fun j hj=>?_,fun i j hi hj e=>?_⟩
 · rw[Array.getElem_push];split
   · rename_i hlt;have:=h.1 j hlt;omega
   · simp
 · rw[Array.getElem_push,Array.getElem_push] at e;simp only[Array.size_push] at hi hj;split at e
   · rename_i h1;split at e
     · rename_i h2;exact h.2 i j h1 h2 e
     · have:=h.1 i h1;simp only at e;omega
   · split at e
     · rename_i h2;have:=h.1 j h2;simp only at e;omega
     · omega
theorem jZ.modify {ces:Array MapEntry} {clock:Nat} (h:jZ ces clock) (j:Nat) (k v:Value):jZ (ces.modify j fun e=>{ e with key:=k,val:=v }) clock:=by
 have key:∀ i,(hi:i<(ces.modify j fun e=>{ e with key:=k,val:=v }).size)→((ces.modify j fun e=>{ e with key:=k,val:=v })[i]).born=(ces[i]'(by simpa using hi)).born:=by
  intro i hi;rw[Array.getElem_modify];split<;>rfl
 refine ⟨fun i hi=>?_,fun i i' hi hi' e=>?_⟩
 · rw[key];exact h.1 i _
 · rw[key,key] at e;exact h.2 i i' _ _ e
theorem jZ.erase {ces:Array MapEntry} {clock:Nat} (h:jZ ces clock) (j:Nat):jZ (ces.eraseIdxIfInBounds j) clock:=by
 unfold Array.eraseIdxIfInBounds;split
 · rename_i hj;refine ⟨fun i hi=>?_,fun i i' hi hi' e=>?_⟩
   · rw[Array.getElem_eraseIdx];split<;>exact h.1 _ _
   · rw[Array.getElem_eraseIdx,Array.getElem_eraseIdx] at e;rw[Array.size_eraseIdx] at hi hi';split at e<;>split at e<;>have:=h.2 _ _ _ _ e<;>omega
 · exact h
theorem Dl {p:aG} {M:Mu} {H:ab} {w:World} (hH:bn p M H w) {d i b o t:Nat} {es es':List (AV×AV)} (hg:az H d i=(0,.map es)) (hl:aK H d=false) (hmu:M d i 0=some (b,o,t))
 {ces':Array MapEntry} {clock':Nat} {v:AV} {cv:Value} (hs:ces'.size=es'.length) (hbn:jZ ces' clock') (hv:∀ j,(h:j<ces'.size)→al p (M.up d) (es'.getD j (.undef,.undef)).1 ces'[j].key∧al p (M.up d) (es'.getD j (.undef,.undef)).2 ces'[j].val)
 (hr:∀ N,al p N v cv):eM p M H nx v (.set d i (0,.map es')) cv w { w with heap:=w.heap.setIfInBounds b (.map ces' clock') }:=by
 obtain ⟨b',o',t',k1,k2,_⟩:=hH.live _ _ _ _ hg (by simp)
 rw[hmu] at k1
 simp only[nP] at k1
 obtain ⟨rfl,rfl,rfl⟩:=k1
 have hlt:=k2.lt (by simp)
 exact ⟨0,.map es,b,o,t,b,o,t,hg,by simp,hl,hmu,by simp,⟨ces',clock',by simp[hlt],hs,hbn,hv⟩,zt _ _ _,.inl rfl,hr _,.inl ⟨rfl,rfl,rfl,rfl⟩⟩

theorem CO {p:aG} {M:Mu} {H:ab} {w:World} (hH:bn p M H w) {d i b o t:Nat} {es:List (AV×AV)} (hg:az H d i=(0,.map es)) (hmu:M d i 0=some (b,o,t)) :
 ∃ ces clock,w.heap[b]?=some (.map ces clock)∧ces.size=es.length∧jZ ces clock∧∀ j,(h:j<ces.size)→al p (M.up d) (es.getD j (.undef,.undef)).1 ces[j].key∧al p (M.up d) (es.getD j (.undef,.undef)).2 ces[j].val:=by
 obtain ⟨b',o',t',k1,k2,_⟩:=hH.live _ _ _ _ hg (by simp)
 rw[hmu] at k1
 simp only[nP] at k1
 obtain ⟨rfl,rfl,rfl⟩:=k1
 exact k2

def mI (key x:AV) (es:List (AV×AV)):Option Nat→List (AV×AV)
 | none=>es++[(key,x)]
 | some j=>og es j (key,x)
def DS (es:List (AV×AV)):Option Nat→List (AV×AV)
 | none=>es
 | some j=>ny es j
theorem Ao {P:Program} {t kt et:TypeId} (hu:P.underlying t=some (.map kt et)) {key x:AV} (hfit:jR P kt key=true) {p:aG} {M N:Mu} {ck cx:Value} (hk:al p M key ck) {xd:AV} (hx:al p N xd cx) {w:World}
 {es:List (AV×AV)} {ces:Array MapEntry} {clock b:Nat} (e1:w.heap[b]?=some (.map ces clock)) (e2:ces.size=es.length) (hbn:jZ ces clock) (e3:∀ j,(h:j<ces.size)→al p N (es.getD j (.undef,.undef)).1 ces[j].key∧al p N (es.getD j (.undef,.undef)).2 ces[j].val)
 {r:Option Nat} (hf:fS key es 0=some r) :
 ∃ ces' clock',(Instr.mapUpdate t (.map (some b)) ck cx).run P w=.ok () { w with heap:=w.heap.setIfInBounds b (.map ces' clock') }∧ces'.size=(mI key xd es r).length∧jZ ces' clock' ∧
  ∀ j,(h:j<ces'.size)→al p N ((mI key xd es r).getD j (.undef,.undef)).1 ces'[j].key∧al p N ((mI key xd es r).getD j (.undef,.undef)).2 ces'[j].val:=by
 obtain ⟨q1,⟨out,q2,q3⟩,q4,q5⟩:=rr hfit hk hf e2 (fun j hj=>(e3 j hj).1) false w
 cases r with
 | none =>
   simp only[jK] at q3
   subst q3
   refine ⟨ces.push { key:=ck,val:=cx,born:=clock },clock+1,?_,by simp[mI,e2],hbn.push ck cx,?_⟩
   · unfold Instr.mapUpdate
     simp[Sem.run_bind,run_underlying hu,Result.andThen,MapKept.run_getObj_map e1,q1,q2,MapKept.run_setObj_map _ e1]
   · intro j hj
     by_cases ej:j<ces.size
     · have e4:(mI key xd es none).getD j (.undef,.undef)=es.getD j (.undef,.undef):=by simp[mI,List.getElem?_append_left (by omega:j<es.length)]
       rw[e4,Array.getElem_push_lt ej]
       exact e3 j ej
     · have ej':j=ces.size:=by simp at hj;omega
       subst ej'
       have e4:(mI key xd es none).getD ces.size (.undef,.undef)=(key,xd):=by simp[mI,e2]
       rw[e4,Array.getElem_push_eq]
       exact ⟨q5 _,hx⟩
 | some j =>
   obtain ⟨e,_,f2,rfl,f4⟩:=q3
   obtain ⟨hj,f2⟩:=List.getElem?_eq_some_iff.1 f2
   simp only[Nat.sub_zero] at hj f2
   have hj':j<ces.size:=by simpa using hj
   have e4:ces[j]=e:=by simpa using f2
   have e5:(((ces[j]?).map (·.key)).getD ck)=ck:=by simp[hj',e4,f4]
   refine ⟨ces.modify j fun e=>{ e with key:=ck,val:=cx },clock,?_,by simp[mI,e2,mY],hbn.modify j ck cx,?_⟩
   · unfold Instr.mapUpdate
     simp only[Sem.run_bind,run_underlying hu,Result.andThen,MapKept.run_getObj_map e1,q1,q2]
     simp only[e5,q4,Sem.run_bind,Result.andThen,MapKept.run_setObj_map _ e1]
   · intro i' hi'
     have hU:mI key xd es (some j)=es.set j (key,xd):=mY _ _ _
     rw[hU]
     have hi2:i'<ces.size:=by simpa using hi'
     by_cases ej:i'=j
     · subst ej
       have e6:(es.set i' (key,xd)).getD i' (.undef,.undef)=(key,xd):=by simp[show i'<es.length by omega]
       rw[e6,Array.getElem_modify_self]
       exact ⟨q5 _,hx⟩
     · have e6:(es.set j (key,xd)).getD i' (.undef,.undef)=es.getD i' (.undef,.undef):=by simp[List.getElem?_set_ne (Ne.symm ej)]
       rw[e6,Array.getElem_modify_of_ne (Ne.symm ej)]
       exact e3 i' hi2
theorem xL {P:Program} {t kt et:TypeId} (hu:P.underlying t=some (.map kt et)) {key:AV} (hfit:jR P kt key=true) {p:aG} {M N:Mu} {ck:Value} (hk:al p M key ck) {w:World}
 {es:List (AV×AV)} {ces:Array MapEntry} {clock b:Nat} (e1:w.heap[b]?=some (.map ces clock)) (e2:ces.size=es.length) (hbn:jZ ces clock) (e3:∀ j,(h:j<ces.size)→al p N (es.getD j (.undef,.undef)).1 ces[j].key∧al p N (es.getD j (.undef,.undef)).2 ces[j].val)
 {r:Option Nat} (hf:fS key es 0=some r) {ts:Array TypeId} {cs:Array Value} (hts0:ts[0]?=some t) (hcs0:cs[0]?=some (.map (some b))) (hcs1:cs[1]?=some ck) (ty:TypeId) :
 ∃ ces' clock',(Builtin.delete_ ts ty cs).run P w=.ok (.tuple #[]) { w with heap:=w.heap.setIfInBounds b (.map ces' clock') }∧ces'.size=(DS es r).length∧jZ ces' clock' ∧
  ∀ j,(h:j<ces'.size)→al p N ((DS es r).getD j (.undef,.undef)).1 ces'[j].key∧al p N ((DS es r).getD j (.undef,.undef)).2 ces'[j].val:=by
 obtain ⟨q1,⟨out,q2,q3⟩,q4,q5⟩:=rr hfit hk hf e2 (fun j hj=>(e3 j hj).1) ces.isEmpty w
 cases r with
 | none =>
   simp only[jK] at q3
   subst q3
   refine ⟨ces,clock,?_,e2,hbn,e3⟩
   unfold Builtin.delete_
   simp[hts0,hcs0,hcs1,Sem.run_bind,run_underlying hu,Result.andThen,MapKept.run_getObj_map e1,q1,q2,MapKept.run_setObj_map _ e1]
 | some j =>
   obtain ⟨e,_,f2,rfl,f4⟩:=q3
   obtain ⟨hj,f2⟩:=List.getElem?_eq_some_iff.1 f2
   simp only[Nat.sub_zero] at hj f2
   have hj':j<ces.size:=by simpa using hj
   have hD:DS es (some j)=es.eraseIdx j:=pH _ _
   rw[hD]
   refine ⟨ces.eraseIdxIfInBounds j,clock,?_,?_,hbn.erase j,?_⟩
   · unfold Builtin.delete_
     simp only[hts0,hcs0,hcs1,Sem.run_bind,run_underlying hu,Result.andThen,MapKept.run_getObj_map e1,q1,q2,MapKept.run_setObj_map _ e1,Sem.run_pure]
   · rw[Array.eraseIdxIfInBounds,dif_pos hj',Array.size_eraseIdx,List.length_eraseIdx,if_pos wO,e2]
   · simp only[Array.eraseIdxIfInBounds,dif_pos hj']
     intro i' hi'
     rw[Array.getElem_eraseIdx]
     rw[Array.size_eraseIdx] at hi'
     have e6:(es.eraseIdx j).getD i' (.undef,.undef)=if i'<j then es.getD i' (.undef,.undef) else es.getD (i'+1) (.undef,.undef):=by
      simp only[List.getD_eq_getElem?_getD,List.getElem?_eraseIdx];split<;>rfl
     rw[e6]
     split
     · exact e3 i' wO
     · exact e3 (i'+1) wO

theorem ja {q:KK} {n m:List Int} (hn:qV q n=true) (hm:qV q m=true) (h:eC q n=eC q m):n=m:=by
 cases q with
 | num k =>
   have h1:n.length=1:=Nat.eq_of_beq_eq_true hn;have h2:m.length=1:=Nat.eq_of_beq_eq_true hm;obtain ⟨a,rfl⟩:=List.length_eq_one_iff.1 h1;obtain ⟨b,rfl⟩:=List.length_eq_one_iff.1 h2;unfold eC at h;simp at h;rw[h]
 | str k=>unfold eC at h;simpa using h
theorem IB {q:KK} {n m:List Int} (hn:qV q n=true) (hm:qV q m=true):oZ (eC q n) (eC q m)=some (decide (n=m)):=by
 cases q with
 | num k =>
   have h1:n.length=1:=Nat.eq_of_beq_eq_true hn;have h2:m.length=1:=Nat.eq_of_beq_eq_true hm;obtain ⟨a,rfl⟩:=List.length_eq_one_iff.1 h1;obtain ⟨b,rfl⟩:=List.length_eq_one_iff.1 h2;show (if k=k then some (a == b) else none)=_;rw[if_pos rfl];simp only[Option.some.injEq,List.cons.injEq,and_true];rfl
 | str k =>
   have h1:n.length=k:=Nat.eq_of_beq_eq_true hn;have h2:m.length=k:=Nat.eq_of_beq_eq_true hm;show (if IntKind.i64=IntKind.i64∧n.length=m.length then some (eY n m) else none)=_;rw[if_pos ⟨rfl,by rw[h1,h2]⟩,fF]
theorem vm {q:KK} {n:List Int} (hn:qV q n=true):∀ (es:List (AV×AV)) (i:Nat),(∀ j,j<es.length→∃ m,qV q m=true∧(es.getD j (.undef,.undef)).1=eC q m) →
 ∃ r,fS (eC q n) es i=some r∧(r=none→∀ j,j<es.length→(es.getD j (.undef,.undef)).1≠eC q n)∧∀ j,r=some j→i≤j∧j-i<es.length∧(es.getD (j-i) (.undef,.undef)).1=eC q n
 | [],i,_=>⟨none,rfl,fun _ j hj=>absurd hj (by simp),fun j h=>by cases h⟩
 | (k, v)::es,i,h=>by
   obtain ⟨m,hfm,hm⟩:=h 0 (by simp);have hm:k=eC q m:=hm;subst hm;unfold fS;rw[IB hn hfm];by_cases e:n=m
   · subst e;rw[decide_eq_true rfl];exact ⟨some i,rfl,(fun x=>by cases x),fun j hj=>by cases hj;exact ⟨Nat.le_refl _,by simp,by simp⟩⟩
   · rw[decide_eq_false e];obtain ⟨r,r1,r2,r3⟩:=vm hn es (i+1) (fun j hj=>by have:=h (j+1) (by simpa using hj);simpa using this);refine ⟨r,r1,fun hr j hj=>?_,fun j hj=>?_⟩
     · cases j with
       | zero=>intro x;exact e (ja hfm hn x).symm
       | succ j=>have:=r2 hr j (by simpa using hj);simpa using this
     · obtain ⟨a1,a2,a3⟩:=r3 j hj;refine ⟨by omega,by simp;omega,?_⟩;rw[show j-i=(j-(i+1))+1 by omega];simpa using a3
theorem qZ.fit {q:KK} {es:List (AV×AV)} {h:List Int→Bool} {g:List Int→Int} {c:Nat} (hE:qZ q es h g c) {n:List Int} (hn:h n=true):qV q n=true:=(hE.all n hn).1
theorem qZ.find {q:KK} {es:List (AV×AV)} {h:List Int→Bool} {g:List Int→Int} {c:Nat} (hE:qZ q es h g c) {n:List Int} (hfn:qV q n=true) :
 ∃ r,fS (eC q n) es 0=some r∧h n=r.isSome∧∀ j,r=some j→j<es.length∧es.getD j (.undef,.undef)=(eC q n,.int .i64 (g n)):=by
 obtain ⟨r,r1,r2,r3⟩:=vm hfn es 0 (fun j hj=>by obtain ⟨m,e,e2⟩:=hE.ent j hj;exact ⟨m,hE.fit e2,by rw[e]⟩)
 refine ⟨r,r1,?_,fun j hj=>?_⟩
 · cases r with
   | none =>
     cases hn:h n with
     | false=>rfl
     | true=>obtain ⟨_,j,j1,j2⟩:=hE.all n hn;exact absurd j2 (r2 rfl j j1)
   | some j =>
     obtain ⟨_,a2,a3⟩:=r3 j rfl
     obtain ⟨m,e,hm⟩:=hE.ent (j-0) a2
     rw[e] at a3
     have:=ja (hE.fit hm) hfn a3
     subst this
     rw[hm];rfl
 · obtain ⟨_,a2,a3⟩:=r3 j hj
   simp only[Nat.sub_zero] at a2 a3
   obtain ⟨m,e,hm⟩:=hE.ent j a2
   rw[e] at a3
   have:=ja (hE.fit hm) hfn a3
   subst this
   exact ⟨a2,e⟩
theorem qZ.Tu {q:KK} {es:List (AV×AV)} {h:List Int→Bool} {g:List Int→Int} {c:Nat} (hE:qZ q es h g c) {n:List Int} {y:Int} (hfn:qV q n=true) {r:Option Nat} (hr:h n=r.isSome) (hj:∀ j,r=some j→j<es.length∧es.getD j (.undef,.undef)=(eC q n,.int .i64 (g n))) :
 qZ q (mI (eC q n) (.int .i64 y) es r) (fB h n true) (iJ g n y) (ux (h n) c):=by
 cases r with
 | none =>
   have hn:h n=false:=hr
   have old:∀ j,j<es.length→(es++[(eC q n,AV.int .i64 y)]).getD j (.undef,.undef)=es.getD j (.undef,.undef):=fun j hj=>by simp[List.getElem?_append_left hj]
   have new:(es++[(eC q n,AV.int .i64 y)]).getD es.length (.undef,.undef)=(eC q n,AV.int .i64 y):=by simp
   have ne:∀ j,j<es.length→∀ m,(es.getD j (.undef,.undef)).1=eC q m→m≠n:=fun j hj m e=>by
    obtain ⟨m',e',hm⟩:=hE.ent j hj;rw[e'] at e;intro x;subst x;have:=ja (hE.fit hm) hfn e;subst this;rw[hn] at hm;cases hm
   rw[hn]
   refine ⟨by simp[mI,hE.len,ux],fun j hj=>?_,fun m hm=>?_,fun m hm=>?_,fun i j hi hj e=>?_⟩
   · simp only[mI,List.length_append,List.length_singleton] at hj
     simp only[mI]
     by_cases e:j<es.length
     · rw[old j e]
       obtain ⟨m,e1,e2⟩:=hE.ent j e
       have:=ne j e m (by rw[e1])
       exact ⟨m,by rw[e1,iJ,if_neg this],by rw[fB,if_neg this];exact e2⟩
     · have:j=es.length:=by omega
       subst this
       exact ⟨n,by rw[new,iJ,if_pos rfl],by rw[fB,if_pos rfl]⟩
   · simp only[mI,List.length_append,List.length_singleton]
     by_cases e:m=n
     · subst e;exact ⟨hfn,es.length,by omega,by rw[new]⟩
     · rw[fB,if_neg e] at hm
       obtain ⟨f,j,j1,j2⟩:=hE.all m hm
       exact ⟨f,j,by omega,by rw[old j j1];exact j2⟩
   · by_cases e:m=n
     · subst e;rw[fB,if_pos rfl] at hm;cases hm
     · rw[fB,if_neg e] at hm;rw[iJ,if_neg e];exact hE.off m hm
   · simp only[mI,List.length_append,List.length_singleton] at hi hj e
     by_cases a1:i<es.length
     · by_cases a2:j<es.length
       · rw[old i a1,old j a2] at e;exact hE.nd i j a1 a2 e
       · have:j=es.length:=by omega
         subst this
         rw[old i a1,new] at e
         exact absurd rfl (ne i a1 n e)
     · have:i=es.length:=by omega
       subst this
       by_cases a2:j<es.length
       · rw[old j a2,new] at e
         exact absurd rfl (ne j a2 n e.symm)
       · omega
 | some k =>
   have hn:h n=true:=hr
   obtain ⟨hk,ek⟩:=hj k rfl
   have hU:mI (eC q n) (.int .i64 y) es (some k)=es.set k (eC q n,AV.int .i64 y):=mY _ _ _
   have at':∀ j,j<es.length→(es.set k (eC q n,AV.int .i64 y)).getD j (.undef,.undef)=if j=k then (eC q n,AV.int .i64 y) else es.getD j (.undef,.undef):=fun j hj=>by
    by_cases e:j=k
    · subst e;simp[hj]
    · rw[if_neg e];simp[List.getElem?_set_ne (Ne.symm e)]
   have key:∀ j,j<es.length→((es.set k (eC q n,AV.int .i64 y)).getD j (.undef,.undef)).1=(es.getD j (.undef,.undef)).1:=fun j hj=>by
    rw[at' j hj];split
    · rename_i e;subst e;rw[ek]
    · rfl
   rw[hU,hn]
   refine ⟨by simp[hE.len,ux],fun j hj=>?_,fun m hm=>?_,fun m hm=>?_,fun i j hi hj e=>?_⟩
   · simp only[List.length_set] at hj
     rw[at' j hj]
     by_cases e:j=k
     · rw[if_pos e];exact ⟨n,by rw[iJ,if_pos rfl],by rw[fB,if_pos rfl]⟩
     · rw[if_neg e]
       obtain ⟨m,e1,e2⟩:=hE.ent j hj
       have:m≠n:=fun x=>by
        subst x;exact e (hE.nd j k (by assumption) hk (by rw[e1,ek]))
       exact ⟨m,by rw[e1,iJ,if_neg this],by rw[fB,if_neg this];exact e2⟩
   · simp only[List.length_set]
     have:h m=true:=by
      by_cases e:m=n
      · subst e;exact hn
      · rw[fB,if_neg e] at hm;exact hm
     obtain ⟨f,j,j1,j2⟩:=hE.all m this
     exact ⟨f,j,j1,by rw[key j j1];exact j2⟩
   · by_cases e:m=n
     · subst e;rw[fB,if_pos rfl] at hm;cases hm
     · rw[fB,if_neg e] at hm;rw[iJ,if_neg e];exact hE.off m hm
   · simp only[List.length_set] at hi hj
     rw[key i hi,key j hj] at e
     exact hE.nd i j hi hj e
theorem qZ.del {q:KK} {es:List (AV×AV)} {h:List Int→Bool} {g:List Int→Int} {c:Nat} (hE:qZ q es h g c) {n:List Int} (hfn:qV q n=true) {r:Option Nat} (hr:h n=r.isSome) (hj:∀ j,r=some j→j<es.length∧es.getD j (.undef,.undef)=(eC q n,.int .i64 (g n))) :
 qZ q (DS es r) (fB h n false) (iJ g n 0) (xI (h n) c):=by
 cases r with
 | none =>
   have hn:h n=false:=hr
   have e1:fB h n false=h:=by         funext i;unfold fB;split
                                      · rename_i e;rw[e,hn]
                                      · rfl
   have e2:iJ g n 0=g:=by         funext i;unfold iJ;split
                                  · rename_i e;rw[e,hE.off n hn]
                                  · rfl
   rw[e1,e2,hn];exact hE
 | some k =>
   have hn:h n=true:=hr
   obtain ⟨hk,ek⟩:=hj k rfl
   have hD:DS es (some k)=es.eraseIdx k:=pH _ _
   have hl:(es.eraseIdx k).length=es.length-1:=by rw[List.length_eraseIdx,if_pos hk]
   have at':∀ j,(es.eraseIdx k).getD j (.undef,.undef)=if j<k then es.getD j (.undef,.undef) else es.getD (j+1) (.undef,.undef):=fun j=>by
    simp only[List.getD_eq_getElem?_getD,List.getElem?_eraseIdx];split<;>rfl
   have up:∀ j,j<es.length-1→∃ j',j'<es.length∧j'≠k∧(es.eraseIdx k).getD j (.undef,.undef)=es.getD j' (.undef,.undef)∧(j'=if j<k then j else j+1):=fun j hj=>by
    by_cases e:j<k
    · exact ⟨j,by omega,by omega,by rw[at',if_pos e],by rw[if_pos e]⟩
    · exact ⟨j+1,by omega,by omega,by rw[at',if_neg e],by rw[if_neg e]⟩
   have ne:∀ j m,j<es.length→j≠k→(es.getD j (.undef,.undef)).1=eC q m→m≠n:=fun j m hj hjk e x=>by
    subst x;exact hjk (hE.nd j k (by assumption) hk (by rw[e,ek]))
   rw[hD,hn]
   refine ⟨by rw[hl,hE.len];rfl,fun j hj=>?_,fun m hm=>?_,fun m hm=>?_,fun i j hi hj e=>?_⟩
   · rw[hl] at hj
     obtain ⟨j',a1,a2,a3,_⟩:=up j hj
     rw[a3]
     obtain ⟨m,e1,e2⟩:=hE.ent j' a1
     have:=ne j' m a1 a2 (by rw[e1])
     exact ⟨m,by rw[e1,iJ,if_neg this],by rw[fB,if_neg this];exact e2⟩
   · have hmn:m≠n:=fun x=>by subst x;rw[fB,if_pos rfl] at hm;cases hm
     rw[fB,if_neg hmn] at hm
     obtain ⟨f,j,j1,j2⟩:=hE.all m hm
     have hjk:j≠k:=fun x=>by subst x;rw[ek] at j2;exact hmn (ja hfn f j2).symm
     refine ⟨f,?_⟩
     rw[hl]
     by_cases e:j<k
     · exact ⟨j,by omega,by rw[at',if_pos e];exact j2⟩
     · exact ⟨j-1,by omega,by rw[at',if_neg wO,show j-1+1=j by omega];exact j2⟩
   · by_cases e:m=n
     · subst e;rw[iJ,if_pos rfl]
     · rw[fB,if_neg e] at hm;rw[iJ,if_neg e];exact hE.off m hm
   · rw[hl] at hi hj
     obtain ⟨i',a1,a2,a3,a4⟩:=up i hi
     obtain ⟨j',b1,b2,b3,b4⟩:=up j hj
     rw[a3,b3] at e
     have:=hE.nd i' j' a1 b1 e
     rw[this] at a4
     rw[b4] at a4
     split at a4<;>split at a4<;>omega
theorem wC {q:KK} {k:AV} {n:List Int} (h:uI q k=some n):k=eC q n∧qV q n=true:=by
 unfold uI at h;split at h
 · split at h
   · rename_i e;cases h;subst e;exact ⟨rfl,rfl⟩
   · cases h
 · split at h
   · rename_i e;cases h;exact ⟨rfl,e⟩
   · cases h
 · cases h
theorem CV {x:AV} {n:Int} (h:yL x=some n):x=.int .i64 n:=by
 unfold yL at h;split at h
 · cases h;rfl
 · cases h
theorem zm {p:aG} {M:Mu} {H:ab} {w:World} (hH:bn p M H w) {d i b o t:Nat} {q:KK} {f f':List Int→Bool} {g g':List Int→Int} {c c':Nat} (hg:az H d i=(0,.fmap q f g c)) (hl:aK H d=false) (hmu:M d i 0=some (b,o,t))
 {es':List (AV×AV)} (hE:qZ q es' f' g' c') {ces':Array MapEntry} {clock':Nat} {v:AV} {cv:Value} (hs:ces'.size=es'.length) (hbn:jZ ces' clock') (hv:∀ j,(h:j<ces'.size)→al p (M.up d) (es'.getD j (.undef,.undef)).1 ces'[j].key∧al p (M.up d) (es'.getD j (.undef,.undef)).2 ces'[j].val)
 (hr:∀ N,al p N v cv):eM p M H nx v (.set d i (0,.fmap q f' g' c')) cv w { w with heap:=w.heap.setIfInBounds b (.map ces' clock') }:=by
 obtain ⟨b',o',t',k1,k2,_⟩:=hH.live _ _ _ _ hg (by simp)
 rw[hmu] at k1
 simp only[nP] at k1
 obtain ⟨rfl,rfl,rfl⟩:=k1
 have hlt:=k2.lt (by simp)
 exact ⟨0,.fmap q f g c,b,o,t,b,o,t,hg,by simp,hl,hmu,by simp,⟨es',hE,ces',clock',by simp[hlt],hs,hbn,hv⟩,zt _ _ _,.inl rfl,hr _,.inl ⟨rfl,rfl,rfl,rfl⟩⟩
theorem oN {p:aG} {M:Mu} {H:ab} {w:World} (hH:bn p M H w) {d i b o t:Nat} {q:KK} {f:List Int→Bool} {g:List Int→Int} {c:Nat} (hg:az H d i=(0,.fmap q f g c)) (hmu:M d i 0=some (b,o,t)) :
 ∃ es,qZ q es f g c∧∃ ces clock,w.heap[b]?=some (.map ces clock)∧ces.size=es.length∧jZ ces clock∧∀ j,(h:j<ces.size)→al p (M.up d) (es.getD j (.undef,.undef)).1 ces[j].key∧al p (M.up d) (es.getD j (.undef,.undef)).2 ces[j].val:=by
 obtain ⟨b',o',t',k1,k2,_⟩:=hH.live _ _ _ _ hg (by simp)
 rw[hmu] at k1
 simp only[nP] at k1
 obtain ⟨rfl,rfl,rfl⟩:=k1
 exact k2

theorem uf {P:Program} {H:ab} {t:TypeId} {m key x:AV} {δ:Delta} (h:jJ P H t m key x=some δ) {p:aG} {M:Mu} {cm ck cx:Value} (hm:al p M m cm) (hk:al p M key ck) (hx:al p M x cx) {w:World} (hH:bn p M H w)
 {v:AV} {cv:Value} (hv:∀ N,al p N v cv) :
 ∃ w',(Instr.mapUpdate t cm ck cx).run P w=.ok () w'∧eM p M H nx v δ cv w w':=by
 unfold jJ at h
 cases hu:P.underlying t with
 | none=>rw[hu] at h;simp at h
 | some d =>
   rw[hu] at h
   cases d<;>try (simp at h;done)
   rename_i kt et
   cases hm<;>try (simp at h;done)
   rename_i d i b o tt hmu
   simp only at h
   split at h
   · simp at h
   · rename_i hlk
     split at h
     · rename_i hfit
       split at h
       · rename_i q f g c hg
         cases hkn:uI q key with
         | none=>rw[hkn] at h;simp at h
         | some n =>
           cases hxn:yL x with
           | none=>rw[hkn,hxn] at h;simp at h
           | some y =>
             rw[hkn,hxn] at h
             simp only[Option.some.injEq] at h
             subst h
             obtain ⟨this,hfit2⟩:=wC hkn
             subst this
             have:=CV hxn
             subst this
             obtain ⟨es,hE,ces,clock,e1,e2,hbn,e3⟩:=oN hH hg hmu
             obtain ⟨r,r1,r2,r3⟩:=hE.find hfit2
             obtain ⟨ces',clock',k1,k2,k3,k4⟩:=Ao (x:=.undef) hu hfit hk (hx.bu p (M.up d)) e1 e2 hbn e3 r1
             exact ⟨_,k1,zm hH hg (by simpa using hlk) hmu (hE.Tu hfit2 r2 r3) k2 k3 k4 hv⟩
       · rename_i es hg
         obtain ⟨ces,clock,e1,e2,hbn,e3⟩:=CO hH hg hmu
         cases hf:fS key es 0 with
         | none=>rw[hf] at h;simp at h
         | some r =>
           rw[hf] at h
           obtain ⟨ces',clock',k1,k2,k3,k4⟩:=Ao (x:=.undef) hu hfit hk hx.dn e1 e2 hbn e3 hf
           refine ⟨_,k1,?_⟩
           cases r<;>simp only[Option.some.injEq] at h<;>subst h<;>exact Dl hH hg (by simpa using hlk) hmu k2 k3 k4 hv
       · simp at h
     · simp at h

theorem AM {P:Program} {H:ab} {t:TypeId} {m key v:AV} {δ:Delta} (h:oF P H t m key=some (v,δ)) {p:aG} {M:Mu} {cm ck:Value} (hm:al p M m cm) (hk:al p M key ck) {w:World} (hH:bn p M H w)
 {ts:Array TypeId} {cs:Array Value} (hts0:ts[0]?=some t) (hcs0:cs[0]?=some cm) (hcs1:cs[1]?=some ck) (ty:TypeId) :
 ∃ cv w',(Builtin.delete_ ts ty cs).run P w=.ok cv w'∧eM p M H nx v δ cv w w':=by
 unfold oF at h
 cases hu:P.underlying t with
 | none=>rw[hu] at h;simp at h
 | some d =>
   rw[hu] at h
   cases d<;>try (simp at h;done)
   rename_i kt et
   cases hm<;>try (simp at h;done)
   rename_i d i b o tt hmu
   simp only at h
   split at h
   · simp at h
   · rename_i hlk
     have hv:∀ N,al p N (.tup []) (.tuple #[]):=fun N=>.tup rfl (fun j hj=>absurd hj (by simp))
     split at h
     · rename_i hfit
       split at h
       · rename_i q f g c hg
         cases hkn:uI q key with
         | none=>rw[hkn] at h;simp at h
         | some n =>
           rw[hkn] at h
           simp only[nP] at h
           obtain ⟨rfl,rfl⟩:=h
           obtain ⟨this,hfit2⟩:=wC hkn
           subst this
           obtain ⟨es,hE,ces,clock,e1,e2,hbn,e3⟩:=oN hH hg hmu
           obtain ⟨r,r1,r2,r3⟩:=hE.find hfit2
           obtain ⟨ces',clock',k1,k2,k3,k4⟩:=xL hu hfit hk e1 e2 hbn e3 r1 hts0 hcs0 hcs1 ty
           exact ⟨_,_,k1,zm hH hg (by simpa using hlk) hmu (hE.del hfit2 r2 r3) k2 k3 k4 hv⟩
       · rename_i es hg
         obtain ⟨ces,clock,e1,e2,hbn,e3⟩:=CO hH hg hmu
         cases hf:fS key es 0 with
         | none=>rw[hf] at h;simp at h
         | some r =>
           rw[hf] at h
           obtain ⟨ces',clock',k1,k2,k3,k4⟩:=xL hu hfit hk e1 e2 hbn e3 hf hts0 hcs0 hcs1 ty
           refine ⟨_,_,k1,?_⟩
           cases r<;>simp only[nP] at h<;>obtain ⟨rfl,rfl⟩:=h<;>exact Dl hH hg (by simpa using hlk) hmu k2 k3 k4 hv
       · simp at h
     · simp at h

theorem yw {P:Program} {H:ab} {t kt et:TypeId} {m key v:AV} {ok:Bool} (hu:P.underlying t=some (.map kt et)) (hfit:jR P kt key=true) {q:KK} {f:List Int→Bool} {g:List Int→Int} {c:Nat} (hfm:vn H m=some (q,f,g,c))
 (h:(match uI q key,(c7 P et).bind yL with
   | some n,some 0=>some (if ok then AV.tup [.int .i64 (g n),.bool (f n)] else .int .i64 (g n))
   | _,_=>none)=some v) {p:aG} {M:Mu} {cm ck:Value} (hm:al p M m cm) (hk:al p M key ck) {w:World} (hH:bn p M H w) :
 ∃ c,(Instr.lookup t cm ck ok).run P w=.ok c w∧al p M v c:=by
 unfold vn at hfm
 cases hm<;>try (simp at hfm;done)
 rename_i d i b o tt hmu
 simp only at hfm
 split at hfm
 · rename_i q' f' g' c' hg
   simp only[nP] at hfm
   obtain ⟨rfl,rfl,rfl,rfl⟩:=hfm
   split at h
   · rename_i n hkn hz0
     simp only[Option.some.injEq] at h
     subst h
     obtain ⟨this,hfit2⟩:=wC hkn
     subst this
     cases hz:c7 P et with
     | none=>rw[hz] at hz0;simp at hz0
     | some z =>
       rw[hz] at hz0
       have:=CV (x:=z) (n:=0) hz0
       subst this
       obtain ⟨cz,hcz,hrz⟩:=dC hz
       have hcz':al p M (.int .i64 0) cz:=hcz ▸ dE p M cz
       obtain ⟨es,hE,ces,clock,e1,e2,hbn,e3⟩:=oN hH hg hmu
       obtain ⟨r,r1,r2,r3⟩:=hE.find hfit2
       obtain ⟨q1,⟨out,q2,q3⟩,_,_⟩:=rr hfit hk r1 e2 (fun j hj=>(e3 j hj).1) ces.isEmpty w
       cases r with
       | none =>
         have hn:f' n=false:=r2
         simp only[jK] at q3
         subst q3
         rw[hn,hE.off n hn]
         refine ⟨if ok then .tuple #[cz,.bool false] else cz,?_,?_⟩
         · unfold Instr.lookup
           simp[Sem.run_bind,run_underlying hu,Result.andThen,Sem.run_pure,MapKept.run_getObj_map e1,q1,q2,hrz]
         · cases ok
           · exact hcz'
           · exact JG hcz'
       | some j =>
         have hn:f' n=true:=r2
         obtain ⟨hj1,hj2⟩:=r3 j rfl
         obtain ⟨e,_,f2,rfl,f4⟩:=q3
         obtain ⟨hj,f2⟩:=List.getElem?_eq_some_iff.1 f2
         simp only[Nat.sub_zero] at hj f2
         have e4:ces[j]'wO=e:=by simpa using f2
         have hv:=(e3 j wO).2
         rw[hj2,e4] at hv
         have hv:al p M (.int .i64 (g' n)) e.val:=hv.bu _ _
         rw[hn]
         refine ⟨if ok then .tuple #[e.val,.bool true] else e.val,?_,?_⟩
         · unfold Instr.lookup
           simp[Sem.run_bind,run_underlying hu,Result.andThen,Sem.run_pure,MapKept.run_getObj_map e1,q1,q2,hrz]
         · cases ok
           · exact hv
           · exact JG hv
   · cases h
 · cases hfm
theorem Be {P:Program} {H:ab} {t:TypeId} {m key v:AV} {ok:Bool} (h:rv P H t m key ok=some v) {p:aG} {M:Mu} {cm ck:Value} (hm:al p M m cm) (hk:al p M key ck) {w:World} (hH:bn p M H w) :
 ∃ c,(Instr.lookup t cm ck ok).run P w=.ok c w∧al p M v c:=by
 unfold rv at h
 cases hu:P.underlying t with
 | none=>rw[hu] at h;simp at h
 | some d =>
   rw[hu] at h
   cases d<;>try (simp at h;done)
   rename_i kt et
   simp only at h
   split at h
   · rename_i hfit
     split at h
     · rename_i q f g c hfm
       exact yw hu hfit hfm h hm hk hH
     rename_i hfm0
     clear hfm0
     cases hent:vh H m with
     | none=>rw[hent] at h;simp at h
     | some de =>
       obtain ⟨d,es⟩:=de
       cases hz:c7 P et with
       | none=>rw[hent,hz] at h;simp at h
       | some z =>
         rw[hent,hz] at h
         simp only at h
         obtain ⟨cz,hcz,hrz⟩:=dC hz
         cases hf:fS key es 0 with
         | none=>rw[hf] at h;simp at h
         | some r =>
           rw[hf] at h
           have core:∃ ces:Array MapEntry,ces.size=es.length∧(∀ j,(h:j<ces.size)→al p (M.up d) (es.getD j (.undef,.undef)).1 ces[j].key∧al p (M.up d) (es.getD j (.undef,.undef)).2 ces[j].val) ∧
            (cm=.map none∧ces=#[]∨∃ b clock,cm=.map (some b)∧w.heap[b]?=some (.map ces clock)):=by
            unfold vh at hent
            cases hm<;>try (simp at hent;done)
            · simp only[nP] at hent
              obtain ⟨rfl,rfl⟩:=hent
              exact ⟨#[],rfl,fun j hj=>absurd hj (by simp),.inl ⟨rfl,rfl⟩⟩
            · rename_i d' i b o tt hmu
              simp only at hent
              split at hent
              · rename_i es' hg
                simp only[nP] at hent
                obtain ⟨rfl,rfl⟩:=hent
                obtain ⟨b',o',t',k1,k2,_⟩:=hH.live _ _ _ _ hg (by simp)
                rw[hmu] at k1
                simp only[nP] at k1
                obtain ⟨rfl,rfl,rfl⟩:=k1
                obtain ⟨ces,clock,e1,e2,_,e3⟩:=k2
                exact ⟨ces,e2,e3,.inr ⟨b,clock,rfl,e1⟩⟩
              · simp at hent
           obtain ⟨ces,e2,e3,hcm⟩:=core
           obtain ⟨q1,⟨out,q2,q3⟩,_,_⟩:=rr hfit hk hf e2 (fun j hj=>(e3 j hj).1) ces.isEmpty w
           have hfin:∃ cv,al p M v (if ok then .tuple #[cv,.bool r.isSome] else cv)∧(r=none→cv=cz)∧(∀ j,r=some j→out=some (j,cv)):=by
            cases r with
            | none =>
              simp only[Option.some.injEq] at h;subst h;refine ⟨cz,?_,fun _=>rfl,fun j e=>by simp at e⟩;have:=hcz ▸ dE p M cz;cases ok
              · exact this
              · exact JG this
            | some j =>
              obtain ⟨e,_,f2,f3,_⟩:=q3;obtain ⟨hj,f2⟩:=List.getElem?_eq_some_iff.1 f2;simp only[Nat.sub_zero] at hj f2;refine ⟨e.val,?_,fun x=>by simp at x,fun j' e'=>by simp at e';subst e';exact f3⟩;simp only[Option.some.injEq] at h;subst h;have:=(e3 j (by simpa using hj)).2;rw[← vE] at this;have e4:ces[j]'(by simpa using hj)=e:=by simpa using f2
              rw[e4] at this;cases ok
              · exact this.up
              · exact JG this.up
           obtain ⟨cv,hv,g1,g2⟩:=hfin
           refine ⟨_,?_,hv⟩
           have q2':=q2
           rcases hcm with ⟨rfl,rfl⟩ | ⟨b,clock,rfl,hb⟩
           all_goals
            unfold Instr.lookup
            cases r with
            | none =>
              simp only[jK] at q3
              subst q3
              have:=g1 rfl
              subst this
              first
               | simp[Sem.run_bind,run_underlying hu,Result.andThen,Sem.run_pure,MapKept.run_getObj_map hb,q1,q2,hrz]
               | (simp at q1 q2;simp[Sem.run_bind,run_underlying hu,Result.andThen,Sem.run_pure,q1,q2,hrz])
            | some j =>
              have:=g2 j rfl
              subst this
              first
               | simp[Sem.run_bind,run_underlying hu,Result.andThen,Sem.run_pure,MapKept.run_getObj_map hb,q1,q2,hrz]
               | (simp at q1 q2;simp[Sem.run_bind,run_underlying hu,Result.andThen,Sem.run_pure,q1,q2,hrz])
   · simp at h


end Go.Eng
