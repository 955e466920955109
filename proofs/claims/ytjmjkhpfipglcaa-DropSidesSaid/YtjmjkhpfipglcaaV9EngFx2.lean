/- The engine, part F: maps. -/
import Derived.Test.YtjmjkhpfipglcaaV9EngE
import Derived.WideKeyRuns
section
namespace Go.Eng
variable {nx : Nat}
set_option linter.unusedVariables false
set_option linter.unusedSimpArgs false

theorem check_flat {P : Program} {k : IntKind} (em : Bool) : ∀ (n : Nat) (t : TypeId) (s : Nat), flatN P n t = some s → ∀ d, n ≤ d → ∀ (xs : List Int), xs.length = s → ∀ w,
 (Instr.checkKey em d t (vOf P t k xs)).run P w = .ok () w
 | 0, t, s, h => by simp [flatN] at h
 | n + 1, t, s, h => by
   intro d hd xs hx w
   obtain ⟨d, rfl⟩ : ∃ q, d = q + 1 := ⟨d - 1, by omega⟩
   have ih := fun t s h => check_flat (P := P) (k := k) em n t s h d (by omega)
   simp only [flatN] at h
   cases hu : P.underlying t with
   | none => rw [hu] at h; simp at h
   | some dd =>
     rw [hu] at h
     cases dd <;> try (simp at h; done)
     case int k' =>
      have hag : aggT P t = some false := by simp [aggT, hu]
      simp [vOf, hag, Instr.checkKey, Sem.run_bind, run_underlying hu, Result.andThen]
     case array len e =>
      have hag : aggT P t = some true := by simp [aggT, hu]
      simp only at h
      cases hf : flatN P n e with
      | none => rw [hf] at h; simp at h
      | some q =>
        rw [hf] at h
        simp only at h
        split at h
        · simp only [Option.some.injEq] at h
          subst h
          have hse := (flatN_size hf).1
          simp only [vOf, hag, if_true]
          rw [Instr.checkKey]
          simp only [Sem.run_bind, run_underlying hu, Result.andThen_ok]
          simp only [Std.Legacy.Range.forIn_eq_forIn_range', Std.Legacy.Range.size, Nat.sub_zero, Nat.add_one_sub_one, Nat.div_one]
          have each : ∀ j ∈ List.range' 0 len, j * q + q ≤ xs.length := by
           intro j hj
           simp at hj
           rw [hx]
           have := Nat.mul_le_mul_right q (show j + 1 ≤ len by omega)
           rw [Nat.add_mul] at this
           omega
          clear hx
          generalize List.range' 0 len = is at each
          induction is with
          | nil => simp
          | cons j is ih2 =>
            have hj := each j (by simp)
            have hlx : ((xs.drop (j * q)).take q).length = q := by simp; omega
            have p2 := ih e q hf _ hlx w
            simp only [List.forIn_cons, Sem.run_bind, run_sizeOf_of hse, Result.andThen_ok, part_flat hf hj, p2, Sem.run_pure]
            exact ih2 (fun y hy => each y (by simp [hy]))
        · simp at h
     case struct fs =>
      have hag : aggT P t = some true := by simp [aggT, hu]
      simp only at h
      split at h
      · simp at h
      · cases hf : flatFs P (flatN P n) 0 fs.toList with
        | none => rw [hf] at h; simp at h
        | some q =>
          rw [hf] at h
          simp only at h
          split at h
          · simp only [Option.some.injEq] at h
            subst h
            simp only [vOf, hag, if_true]
            rw [Instr.checkKey]
            simp only [Sem.run_bind, run_underlying hu, Result.andThen_ok]
            rw [← Array.forIn_toList]
            have go : ∀ (L : List Field) (off : Nat), flatFs P (flatN P n) off L = some q → off ≤ q ∧ (forIn (m := Sem) L PUnit.unit (fun f _ => do
             if f.name ≠ "_" then Instr.checkKey em d f.type (← part f.type (xs.map (Value.int k)).toArray f.offset)
             pure (ForInStep.yield PUnit.unit))).run P w = .ok PUnit.unit w := by
             intro L
             induction L with
             | nil => intro off h0; simp [flatFs] at h0; exact ⟨by omega, by simp⟩
             | cons f L ih2 =>
               intro off h0
               simp only [flatFs] at h0
               split at h0
               · rename_i hf0
                 simp only [Bool.and_eq_true, bne_iff_ne, ne_eq, Nat.beq_eq] at hf0
                 obtain ⟨hne, hoff⟩ := hf0
                 cases hs : flatN P n f.type with
                 | none => rw [hs] at h0; simp at h0
                 | some s =>
                   rw [hs] at h0
                   simp only at h0
                   obtain ⟨hle, hrun⟩ := ih2 _ h0
                   refine ⟨by omega, ?_⟩
                   have hlx : ((xs.drop off).take s).length = s := by simp; omega
                   have p2 := ih f.type s hs _ hlx w
                   simp only [List.forIn_cons, Sem.run_bind, hne, ne_eq, not_false_eq_true, if_true, Result.andThen_ok, hoff, part_flat hs (show off + s ≤ xs.length by omega), p2, Sem.run_pure]
                   exact hrun
               · simp at h0
            have := (go fs.toList 0 hf).2
            simp only [Array.forIn_toList] at this ⊢
            rw [this]
            rfl
          · simp at h

def FindOk (ces : List MapEntry) (i : Nat) (ck : Value) (r : Option Nat) (out : Option (Nat × Value)) : Prop :=
 match r with
 | none => out = none
 | some j => ∃ e, i ≤ j ∧ ces[j - i]? = some e ∧ out = some (j, e.val) ∧ e.key = ck

theorem FindOk.step {ces : List MapEntry} {e : MapEntry} {i : Nat} {ck : Value} {r : Option Nat} {out : Option (Nat × Value)} (h : FindOk ces (i + 1) ck r out) : FindOk (e :: ces) i ck r out := by
 cases r with
 | none => exact h
 | some j =>
   obtain ⟨x, h1, h2, h3, h4⟩ := h
   refine ⟨x, by omega, ?_, h3, h4⟩
   obtain ⟨q, hq⟩ : ∃ q, j - i = q + 1 := ⟨j - i - 1, by omega⟩
   rw [hq, List.getElem?_cons_succ]
   rw [← h2]; congr 1; omega

theorem findNow_rel {p : Pst} {M : Mu} {k kk : IntKind} {n : Int} : ∀ (es : List (AV × AV)) (ces : List MapEntry) (i : Nat) (r : Option Nat), findA (.int k n) es i = some r → ces.length = es.length →
 (∀ j e, ces[j]? = some e → VRel p M (es.getD j (.undef, .undef)).1 e.key) → ∃ out, Instr.findNow (.int kk) (.int k n) ces i = some out ∧ FindOk ces i (.int k n) r out
 | [], ces, i, r, h, hl, _ => by
   have : ces = [] := List.length_eq_zero_iff.1 (by simpa using hl)
   subst this
   simp only [findA, Option.some.injEq] at h
   subst h
   exact ⟨none, rfl, rfl⟩
 | (a, v) :: es, ces, i, r, h, hl, hv => by
   cases ces with
   | nil => simp at hl
   | cons e ces =>
     have h0 := hv 0 e rfl
     simp only [List.getD_cons_zero] at h0
     simp only [findA] at h
     cases hk : keyEq (.int k n) a with
     | none => rw [hk] at h; simp at h
     | some b =>
       rw [hk] at h
       cases a <;> try (simp [keyEq] at hk; done)
       rename_i k' m
       have hek := h0.ofInt
       simp only [keyEq] at hk
       split at hk
       · rename_i hkk
         subst hkk
         simp only [Option.some.injEq] at hk
         cases b with
         | true =>
           simp only [Option.some.injEq] at h
           subst h
           have hnm : n = m := by simpa using hk
           subst hnm
           refine ⟨some (i, e.val), by simp [Instr.findNow, Instr.sameNow, hek], e, Nat.le_refl _, by simp, rfl, hek⟩
         | false =>
           simp only at h
           obtain ⟨out, k1, k2⟩ := findNow_rel (kk := kk) es ces (i + 1) r h (by simpa using hl) (fun j x hx => by have := hv (j + 1) x (by simpa using hx); simpa using this)
           refine ⟨out, ?_, k2.step⟩
           simp [Instr.findNow, Instr.sameNow, hek, hk, k1]
       · simp at hk

theorem findAsking_rel {P : Program} {p : Pst} {M : Mu} {t : TypeId} {k : IntKind} {l : List Int} (hf : flatN P 20 t = some l.length) (hag : aggT P t = some true) (w : World) : ∀ (es : List (AV × AV)) (ces : List MapEntry) (i : Nat) (r : Option Nat), findA (.agg (.I k l)) es i = some r → ces.length = es.length →
 (∀ j e, ces[j]? = some e → VRel p M (es.getD j (.undef, .undef)).1 e.key) → ∃ out, (Instr.findAsking t (.agg (l.map (Value.int k)).toArray) ces i).run P w = .ok out w ∧ FindOk ces i (.agg (l.map (Value.int k)).toArray) r out
 | [], ces, i, r, h, hl, _ => by
   have : ces = [] := List.length_eq_zero_iff.1 (by simpa using hl)
   subst this
   simp only [findA, Option.some.injEq] at h
   subst h
   exact ⟨none, rfl, rfl⟩
 | (a, v) :: es, ces, i, r, h, hl, hv => by
   cases ces with
   | nil => simp at hl
   | cons e ces =>
     have h0 := hv 0 e rfl
     simp only [List.getD_cons_zero] at h0
     simp only [findA] at h
     cases hk : keyEq (.agg (.I k l)) a with
     | none => rw [hk] at h; simp at h
     | some b =>
       rw [hk] at h
       cases a <;> try (simp [keyEq] at hk; done)
       rename_i row
       cases row <;> try (simp [keyEq] at hk; done)
       rename_i k' m
       have hek := agg_ints h0
       simp only [keyEq] at hk
       split at hk
       · rename_i hkk
         obtain ⟨rfl, hlen⟩ := hkk
         simp only [Option.some.injEq] at hk
         have heq := eq_flat (P := P) (k := k) 20 t l.length hf 10000 (by omega) l m rfl hlen.symm w
         simp only [vOf, hag, if_true, hk] at heq
         have heq' : (Op.equal t (.agg (l.map (Value.int k)).toArray) e.key).run P w = .ok b w := by rw [hek]; exact heq
         cases b with
         | true =>
           simp only [Option.some.injEq] at h
           subst h
           rw [listEq_eq] at hk
           have hnm : l = m := by simpa using hk
           subst hnm
           exact ⟨some (i, e.val), by simp [Instr.findAsking, Sem.run_bind, heq', Result.andThen], e, Nat.le_refl _, by simp, rfl, hek⟩
         | false =>
           simp only at h
           obtain ⟨out, k1, k2⟩ := findAsking_rel hf hag w es ces (i + 1) r h (by simpa using hl) (fun j x hx => by have := hv (j + 1) x (by simpa using hx); simpa using this)
           refine ⟨out, ?_, k2.step⟩
           simp [Instr.findAsking, Sem.run_bind, heq', Result.andThen, k1]
       · simp at hk

theorem sameBits_int (k : IntKind) (n : Int) (d : Nat) : Instr.sameBits d (.int k n) (.int k n) = true := by
 cases d <;> simp [Instr.sameBits]
theorem sameBits_ints (k : IntKind) (l : List Int) : Instr.sameBits 10000 (.agg (l.map (Value.int k)).toArray) (.agg (l.map (Value.int k)).toArray) = true := by
 show Instr.sameBits (9999 + 1) _ _ = true
 simp only [Instr.sameBits, beq_self_eq_true, Bool.true_and, List.all_eq_true]
 intro q hq
 obtain ⟨i, hi, e⟩ := List.getElem_of_mem hq
 rw [List.getElem_zip] at e
 rw [← e]
 simp only [List.getElem_map]
 exact sameBits_int _ _ _

theorem key_rel {P : Program} {kt : TypeId} {key : AV} (hfit : keyFit P kt key = true) {p : Pst} {M N : Mu} {ck : Value} (hk : VRel p M key ck) {es : List (AV × AV)} {ces : Array MapEntry} {r : Option Nat}
 (hf : findA key es 0 = some r) (hl : ces.size = es.length) (hv : ∀ j, (h : j < ces.size) → VRel p N (es.getD j (.undef, .undef)).1 ces[j].key) (em : Bool) (w : World) :
 (Instr.checkKey em 10000 kt ck).run P w = .ok () w ∧ (∃ out, (Instr.findKey kt ck ces.toList).run P w = .ok out w ∧ FindOk ces.toList 0 ck r out) ∧ (Instr.keyThatStays ck ck).run P w = .ok ck w ∧ ∀ N', VRel p N' key ck := by
 have hv' : ∀ j e, ces.toList[j]? = some e → VRel p N (es.getD j (.undef, .undef)).1 e.key := by
  intro j e he
  obtain ⟨hj, rfl⟩ := List.getElem?_eq_some_iff.1 he
  exact hv j (by simpa using hj)
 unfold keyFit at hfit
 cases hu : P.underlying kt with
 | none => simp [hu] at hfit
 | some d =>
   cases key <;> try (cases d <;> simp [hu] at hfit; done)
   case int k n =>
    cases d <;> try (simp [hu] at hfit; done)
    rename_i kk
    have hck := hk.ofInt
    subst hck
    refine ⟨?_, ?_, by simp [Instr.keyThatStays, sameBits_int], fun N' => .int _ _⟩
    · show (Instr.checkKey em (9999 + 1) kt _).run P w = _
      rw [Instr.checkKey]
      simp only [Sem.run_bind, run_underlying hu, Result.andThen, Sem.run_pure]
    · obtain ⟨out, k1, k2⟩ := findNow_rel (kk := kk) es ces.toList 0 r hf (by simpa using hl) hv'
      exact ⟨out, MapKept.run_findKey hu k1, k2⟩
   case agg row =>
    cases row <;> try (cases d <;> simp [hu] at hfit; done)
    rename_i k l
    have hck := agg_ints hk
    subst hck
    have hfl : flatN P 20 kt = some l.length := by cases d <;> simp [hu] at hfit <;> exact hfit
    have hag : aggT P kt = some true := by cases d <;> simp [hu] at hfit <;> simp [aggT, hu]
    have hwide : (match P.underlying kt with | some (.array _ _) | some (.struct _) => true | _ => false) = true := by cases d <;> simp [hu] at hfit <;> simp [hu]
    refine ⟨?_, ?_, by simp [Instr.keyThatStays, sameBits_ints], fun N' => ?_⟩
    · have := check_flat (P := P) (k := k) em 20 kt _ hfl 10000 (by omega) l rfl w
      simpa [vOf, hag] using this
    · obtain ⟨out, k1, k2⟩ := findAsking_rel hfl hag w es ces.toList 0 r hf (by simpa using hl) hv'
      exact ⟨out, by rw [run_findKey_eq w hwide]; exact k1, k2⟩
    · cases hk with
      | agg hs h1 hv => exact .agg hs h1 (fun j hj => (hv j hj).anyInt _ _)

theorem nthEnt_eq : ∀ (es : List (AV × AV)) (i : Nat), nthEnt es i = (es.getD i (.undef, .undef)).2
 | [], i => by simp [nthEnt]
 | e :: es, 0 => by simp [nthEnt]
 | e :: es, i + 1 => by simp [nthEnt, nthEnt_eq es i]
theorem setEnt_eq : ∀ (es : List (AV × AV)) (i : Nat) (x : AV × AV), setEnt es i x = es.set i x
 | [], i, x => by simp [setEnt]
 | e :: es, 0, x => by simp [setEnt]
 | e :: es, i + 1, x => by simp [setEnt, setEnt_eq es i x]
theorem delEnt_eq : ∀ (es : List (AV × AV)) (i : Nat), delEnt es i = es.eraseIdx i
 | [], i => by simp [delEnt]
 | e :: es, 0 => by simp [delEnt]
 | e :: es, i + 1 => by simp [delEnt, delEnt_eq es i]

theorem tup2 {p : Pst} {M : Mu} {v : AV} {c : Value} {b : Bool} (h : VRel p M v c) : VRel p M (.tup [v, .bool b]) (.tuple #[c, .bool b]) := by
 refine .tup rfl (fun j hj => ?_)
 match j, hj with
 | 0, _ => exact h
 | 1, _ => exact .bool b

theorem lookup_rel {P : Program} {H : Heap} {t : TypeId} {m key v : AV} {ok : Bool} (h : lookupV P H t m key ok = some v) {p : Pst} {M : Mu} {cm ck : Value} (hm : VRel p M m cm) (hk : VRel p M key ck) {w : World} (hH : HRel p M H w) :
 ∃ c, (Instr.lookup t cm ck ok).run P w = .ok c w ∧ VRel p M v c := by
 unfold lookupV at h
 cases hu : P.underlying t with
 | none => rw [hu] at h; simp at h
 | some d =>
   rw [hu] at h
   cases d <;> try (simp at h; done)
   rename_i kt et
   simp only at h
   split at h
   · rename_i hfit
     cases hent : entsV H m with
     | none => rw [hent] at h; simp at h
     | some de =>
       obtain ⟨d, es⟩ := de
       cases hz : zeroT P et with
       | none => rw [hent, hz] at h; simp at h
       | some z =>
         rw [hent, hz] at h
         simp only at h
         obtain ⟨cz, hcz, hrz⟩ := run_zero_of hz
         cases hf : findA key es 0 with
         | none => rw [hf] at h; simp at h
         | some r =>
           rw [hf] at h
           have core : ∃ ces : Array MapEntry, ces.size = es.length ∧ (∀ j, (h : j < ces.size) → VRel p (M.up d) (es.getD j (.undef, .undef)).1 ces[j].key ∧ VRel p (M.up d) (es.getD j (.undef, .undef)).2 ces[j].val) ∧
            (cm = .map none ∧ ces = #[] ∨ ∃ b clock, cm = .map (some b) ∧ w.heap[b]? = some (.map ces clock)) := by
            unfold entsV at hent
            cases hm <;> try (simp at hent; done)
            · simp only [Option.some.injEq, Prod.mk.injEq] at hent
              obtain ⟨rfl, rfl⟩ := hent
              exact ⟨#[], rfl, fun j hj => absurd hj (by simp), .inl ⟨rfl, rfl⟩⟩
            · rename_i d' i b o tt hmu
              simp only at hent
              split at hent
              · rename_i es' hg
                simp only [Option.some.injEq, Prod.mk.injEq] at hent
                obtain ⟨rfl, rfl⟩ := hent
                obtain ⟨b', o', t', k1, k2, _⟩ := hH.live _ _ _ _ hg (by simp)
                rw [hmu] at k1
                simp only [Option.some.injEq, Prod.mk.injEq] at k1
                obtain ⟨rfl, rfl, rfl⟩ := k1
                obtain ⟨ces, clock, e1, e2, _, e3⟩ := k2
                exact ⟨ces, e2, e3, .inr ⟨b, clock, rfl, e1⟩⟩
              · simp at hent
           obtain ⟨ces, e2, e3, hcm⟩ := core
           obtain ⟨q1, ⟨out, q2, q3⟩, _, _⟩ := key_rel hfit hk hf e2 (fun j hj => (e3 j hj).1) ces.isEmpty w
           have hfin : ∃ cv, VRel p M v (if ok then .tuple #[cv, .bool r.isSome] else cv) ∧ (r = none → cv = cz) ∧ (∀ j, r = some j → out = some (j, cv)) := by
            cases r with
            | none =>
              simp only [Option.some.injEq] at h
              subst h
              refine ⟨cz, ?_, fun _ => rfl, fun j e => by simp at e⟩
              have := hcz ▸ constV_rel p M cz
              cases ok
              · exact this
              · exact tup2 this
            | some j =>
              obtain ⟨e, _, f2, f3, _⟩ := q3
              obtain ⟨hj, f2⟩ := List.getElem?_eq_some_iff.1 f2
              simp only [Nat.sub_zero] at hj f2
              refine ⟨e.val, ?_, fun x => by simp at x, fun j' e' => by simp at e'; subst e'; exact f3⟩
              simp only [Option.some.injEq] at h
              subst h
              have := (e3 j (by simpa using hj)).2
              rw [← nthEnt_eq] at this
              have e4 : ces[j]'(by simpa using hj) = e := by simpa using f2
              rw [e4] at this
              cases ok
              · exact this.up
              · exact tup2 this.up
           obtain ⟨cv, hv, g1, g2⟩ := hfin
           refine ⟨_, ?_, hv⟩
           have q2' := q2
           rcases hcm with ⟨rfl, rfl⟩ | ⟨b, clock, rfl, hb⟩
           all_goals
            unfold Instr.lookup
            cases r with
            | none =>
              simp only [FindOk] at q3
              subst q3
              have := g1 rfl
              subst this
              first
               | simp [Sem.run_bind, run_underlying hu, Result.andThen, Sem.run_pure, MapKept.run_getObj_map hb, q1, q2, hrz]
               | (simp at q1 q2; simp [Sem.run_bind, run_underlying hu, Result.andThen, Sem.run_pure, q1, q2, hrz])
            | some j =>
              have := g2 j rfl
              subst this
              first
               | simp [Sem.run_bind, run_underlying hu, Result.andThen, Sem.run_pure, MapKept.run_getObj_map hb, q1, q2, hrz]
               | (simp at q1 q2; simp [Sem.run_bind, run_underlying hu, Result.andThen, Sem.run_pure, q1, q2, hrz])
   · simp at h

theorem stay_set (w : World) (b : Nat) (x : Obj) : Stay (fun y => y ≠ b) w { w with heap := w.heap.setIfInBounds b x } :=
 ⟨rfl, rfl, rfl, by simp, fun y _ hy => by simp [Array.getElem?_setIfInBounds_ne (Ne.symm hy)]⟩

theorem Born.push {ces : Array MapEntry} {clock : Nat} (h : Born ces clock) (k v : Value) : Born (ces.push { key := k, val := v, born := clock }) (clock + 1) := by
 refine ⟨fun j hj => ?_, fun i j hi hj e => ?_⟩
 · rw [Array.getElem_push]
   split
   · rename_i hlt; have := h.1 j hlt; omega
   · simp
 · rw [Array.getElem_push, Array.getElem_push] at e
   simp only [Array.size_push] at hi hj
   split at e
   · rename_i h1
     split at e
     · rename_i h2; exact h.2 i j h1 h2 e
     · have := h.1 i h1; simp only at e; omega
   · split at e
     · rename_i h2; have := h.1 j h2; simp only at e; omega
     · omega
theorem Born.modify {ces : Array MapEntry} {clock : Nat} (h : Born ces clock) (j : Nat) (k v : Value) : Born (ces.modify j fun e => { e with key := k, val := v }) clock := by
 have key : ∀ i, (hi : i < (ces.modify j fun e => { e with key := k, val := v }).size) → ((ces.modify j fun e => { e with key := k, val := v })[i]).born = (ces[i]'(by simpa using hi)).born := by
  intro i hi
  rw [Array.getElem_modify]
  split <;> rfl
 refine ⟨fun i hi => ?_, fun i i' hi hi' e => ?_⟩
 · rw [key]; exact h.1 i _
 · rw [key, key] at e; exact h.2 i i' _ _ e
theorem Born.erase {ces : Array MapEntry} {clock : Nat} (h : Born ces clock) (j : Nat) : Born (ces.eraseIdxIfInBounds j) clock := by
 unfold Array.eraseIdxIfInBounds
 split
 · rename_i hj
   refine ⟨fun i hi => ?_, fun i i' hi hi' e => ?_⟩
   · rw [Array.getElem_eraseIdx]; split <;> exact h.1 _ _
   · rw [Array.getElem_eraseIdx, Array.getElem_eraseIdx] at e
     rw [Array.size_eraseIdx] at hi hi'
     split at e <;> split at e <;> have := h.2 _ _ _ _ e <;> omega
 · exact h
theorem set_map {p : Pst} {M : Mu} {H : Heap} {w : World} (hH : HRel p M H w) {d i b o t : Nat} {es es' : List (AV × AV)} (hg : hGet H d i = (0, .map es)) (hl : hLock H d = false) (hmu : M d i 0 = some (b, o, t))
 {ces' : Array MapEntry} {clock' : Nat} {v : AV} {cv : Value} (hs : ces'.size = es'.length) (hbn : Born ces' clock') (hv : ∀ j, (h : j < ces'.size) → VRel p (M.up d) (es'.getD j (.undef, .undef)).1 ces'[j].key ∧ VRel p (M.up d) (es'.getD j (.undef, .undef)).2 ces'[j].val)
 (hr : ∀ N, VRel p N v cv) : DRel p M H nx v (.set d i (0, .map es')) cv w { w with heap := w.heap.setIfInBounds b (.map ces' clock') } := by
 obtain ⟨b', o', t', k1, k2, _⟩ := hH.live _ _ _ _ hg (by simp)
 rw [hmu] at k1
 simp only [Option.some.injEq, Prod.mk.injEq] at k1
 obtain ⟨rfl, rfl, rfl⟩ := k1
 have hlt := k2.lt (by simp)
 exact ⟨0, .map es, b, o, t, b, o, t, hg, by simp, hl, hmu, by simp, ⟨ces', clock', by simp [hlt], hs, hbn, hv⟩, stay_set _ _ _, .inl rfl, hr _, .inl ⟨rfl, rfl, rfl, rfl⟩⟩

theorem map_own {p : Pst} {M : Mu} {H : Heap} {w : World} (hH : HRel p M H w) {d i b o t : Nat} {es : List (AV × AV)} (hg : hGet H d i = (0, .map es)) (hmu : M d i 0 = some (b, o, t)) :
 ∃ ces clock, w.heap[b]? = some (.map ces clock) ∧ ces.size = es.length ∧ Born ces clock ∧ ∀ j, (h : j < ces.size) → VRel p (M.up d) (es.getD j (.undef, .undef)).1 ces[j].key ∧ VRel p (M.up d) (es.getD j (.undef, .undef)).2 ces[j].val := by
 obtain ⟨b', o', t', k1, k2, _⟩ := hH.live _ _ _ _ hg (by simp)
 rw [hmu] at k1
 simp only [Option.some.injEq, Prod.mk.injEq] at k1
 obtain ⟨rfl, rfl, rfl⟩ := k1
 exact k2

theorem update_rel {P : Program} {H : Heap} {t : TypeId} {m key x : AV} {δ : Delta} (h : updateV P H t m key x = some δ) {p : Pst} {M : Mu} {cm ck cx : Value} (hm : VRel p M m cm) (hk : VRel p M key ck) (hx : VRel p M x cx) {w : World} (hH : HRel p M H w)
 {v : AV} {cv : Value} (hv : ∀ N, VRel p N v cv) :
 ∃ w', (Instr.mapUpdate t cm ck cx).run P w = .ok () w' ∧ DRel p M H nx v δ cv w w' := by
 unfold updateV at h
 cases hu : P.underlying t with
 | none => rw [hu] at h; simp at h
 | some d =>
   rw [hu] at h
   cases d <;> try (simp at h; done)
   rename_i kt et
   cases hm <;> try (simp at h; done)
   rename_i d i b o tt hmu
   simp only at h
   split at h
   · simp at h
   · rename_i hlk
     split at h
     · rename_i hfit
       split at h
       · rename_i es hg
         obtain ⟨ces, clock, e1, e2, hbn, e3⟩ := map_own hH hg hmu
         cases hf : findA key es 0 with
         | none => rw [hf] at h; simp at h
         | some r =>
           rw [hf] at h
           obtain ⟨q1, ⟨out, q2, q3⟩, q4, q5⟩ := key_rel hfit hk hf e2 (fun j hj => (e3 j hj).1) false w
           cases r with
           | none =>
             simp only [Option.some.injEq] at h
             subst h
             simp only [FindOk] at q3
             subst q3
             refine ⟨_, ?_, set_map hH hg (by simpa using hlk) hmu (ces' := ces.push { key := ck, val := cx, born := clock }) (clock' := clock + 1) (by simp [e2]) (hbn.push ck cx) ?_ hv⟩
             · unfold Instr.mapUpdate
               simp [Sem.run_bind, run_underlying hu, Result.andThen, MapKept.run_getObj_map e1, q1, q2, MapKept.run_setObj_map _ e1]
             · intro j hj
               by_cases ej : j < ces.size
               · have e4 : (es ++ [(key, dnV d x)]).getD j (.undef, .undef) = es.getD j (.undef, .undef) := by simp [List.getElem?_append_left (by omega : j < es.length)]
                 rw [e4, Array.getElem_push_lt ej]
                 exact e3 j ej
               · have ej' : j = ces.size := by simp at hj; omega
                 subst ej'
                 have e4 : (es ++ [(key, dnV d x)]).getD ces.size (.undef, .undef) = (key, dnV d x) := by simp [e2]
                 rw [e4, Array.getElem_push_eq]
                 exact ⟨q5 _, hx.dn⟩
           | some j =>
             simp only [Option.some.injEq] at h
             subst h
             obtain ⟨e, _, f2, rfl, f4⟩ := q3
             obtain ⟨hj, f2⟩ := List.getElem?_eq_some_iff.1 f2
             simp only [Nat.sub_zero] at hj f2
             have hj' : j < ces.size := by simpa using hj
             have e4 : ces[j] = e := by simpa using f2
             have e5 : (((ces[j]?).map (·.key)).getD ck) = ck := by simp [hj', e4, f4]
             refine ⟨_, ?_, set_map hH hg (by simpa using hlk) hmu (ces' := ces.modify j fun e => { e with key := ck, val := cx }) (clock' := clock) (by simp [e2, setEnt_eq]) (hbn.modify j ck cx) ?_ hv⟩
             · unfold Instr.mapUpdate
               simp only [Sem.run_bind, run_underlying hu, Result.andThen, MapKept.run_getObj_map e1, q1, q2]
               simp only [e5, q4, Sem.run_bind, Result.andThen, MapKept.run_setObj_map _ e1]
             · intro i' hi'
               rw [setEnt_eq]
               have hi2 : i' < ces.size := by simpa using hi'
               by_cases ej : i' = j
               · subst ej
                 have e6 : (es.set i' (key, dnV d x)).getD i' (.undef, .undef) = (key, dnV d x) := by simp [show i' < es.length by omega]
                 rw [e6, Array.getElem_modify_self]
                 exact ⟨q5 _, hx.dn⟩
               · have e6 : (es.set j (key, dnV d x)).getD i' (.undef, .undef) = es.getD i' (.undef, .undef) := by simp [List.getElem?_set_ne (Ne.symm ej)]
                 rw [e6, Array.getElem_modify_of_ne (Ne.symm ej)]
                 exact e3 i' hi2
       · simp at h
     · simp at h

theorem delete_rel {P : Program} {H : Heap} {t : TypeId} {m key v : AV} {δ : Delta} (h : deleteV P H t m key = some (v, δ)) {p : Pst} {M : Mu} {cm ck : Value} (hm : VRel p M m cm) (hk : VRel p M key ck) {w : World} (hH : HRel p M H w)
 {ts : Array TypeId} {cs : Array Value} (hts0 : ts[0]? = some t) (hcs0 : cs[0]? = some cm) (hcs1 : cs[1]? = some ck) (ty : TypeId) :
 ∃ cv w', (Builtin.delete_ ts ty cs).run P w = .ok cv w' ∧ DRel p M H nx v δ cv w w' := by
 unfold deleteV at h
 cases hu : P.underlying t with
 | none => rw [hu] at h; simp at h
 | some d =>
   rw [hu] at h
   cases d <;> try (simp at h; done)
   rename_i kt et
   cases hm <;> try (simp at h; done)
   rename_i d i b o tt hmu
   simp only at h
   split at h
   · simp at h
   · rename_i hlk
     split at h
     · rename_i hfit
       split at h
       · rename_i es hg
         obtain ⟨ces, clock, e1, e2, hbn, e3⟩ := map_own hH hg hmu
         have hv : ∀ N, VRel p N (.tup []) (.tuple #[]) := fun N => .tup rfl (fun j hj => absurd hj (by simp))
         cases hf : findA key es 0 with
         | none => rw [hf] at h; simp at h
         | some r =>
           rw [hf] at h
           obtain ⟨q1, ⟨out, q2, q3⟩, q4, q5⟩ := key_rel hfit hk hf e2 (fun j hj => (e3 j hj).1) ces.isEmpty w
           cases r with
           | none =>
             simp only [Option.some.injEq, Prod.mk.injEq] at h
             obtain ⟨rfl, rfl⟩ := h
             simp only [FindOk] at q3
             subst q3
             refine ⟨_, _, ?_, set_map hH hg (by simpa using hlk) hmu (ces' := ces) (clock' := clock) e2 hbn e3 hv⟩
             unfold Builtin.delete_
             simp [hts0, hcs0, hcs1, Sem.run_bind, run_underlying hu, Result.andThen, MapKept.run_getObj_map e1, q1, q2, MapKept.run_setObj_map _ e1]
           | some j =>
             simp only [Option.some.injEq, Prod.mk.injEq] at h
             obtain ⟨rfl, rfl⟩ := h
             obtain ⟨e, _, f2, rfl, f4⟩ := q3
             obtain ⟨hj, f2⟩ := List.getElem?_eq_some_iff.1 f2
             simp only [Nat.sub_zero] at hj f2
             have hj' : j < ces.size := by simpa using hj
             refine ⟨_, _, ?_, set_map hH hg (by simpa using hlk) hmu (ces' := ces.eraseIdxIfInBounds j) (clock' := clock) ?_ (hbn.erase j) ?_ hv⟩
             · unfold Builtin.delete_
               simp only [hts0, hcs0, hcs1, Sem.run_bind, run_underlying hu, Result.andThen, MapKept.run_getObj_map e1, q1, q2, MapKept.run_setObj_map _ e1, Sem.run_pure]
             · rw [delEnt_eq, Array.eraseIdxIfInBounds, dif_pos hj', Array.size_eraseIdx, List.length_eraseIdx, if_pos (by omega), e2]
             · rw [delEnt_eq]
               simp only [Array.eraseIdxIfInBounds, dif_pos hj']
               intro i' hi'
               rw [Array.getElem_eraseIdx]
               rw [Array.size_eraseIdx] at hi'
               have e6 : (es.eraseIdx j).getD i' (.undef, .undef) = if i' < j then es.getD i' (.undef, .undef) else es.getD (i' + 1) (.undef, .undef) := by
                simp only [List.getD_eq_getElem?_getD, List.getElem?_eraseIdx]
                split <;> rfl
               rw [e6]
               split
               · exact e3 i' (by omega)
               · exact e3 (i' + 1) (by omega)
       · simp at h
     · simp at h

end Go.Eng
end
section
namespace Go.Eng
variable {nx : Nat}
set_option linter.unusedVariables false
set_option linter.unusedSimpArgs false

theorem hGet_pushAt : ∀ (H : Heap) (d : Nat) (b : Blk) (d' i' : Nat), hGet (hPushAt H d b) d' i' = if d' = d ∧ i' = hNextAt H d ∧ d < H.length then (0, b) else hGet H d' i'
 | [], d, b, d', i' => by simp [hPushAt]
 | l :: r, 0, b, 0, i' => by simp [hPushAt, hGet, hNextAt, nthBlk_push]
 | l :: r, 0, b, d' + 1, i' => by simp [hPushAt, hGet]
 | l :: r, d + 1, b, 0, i' => by simp [hPushAt, hGet]
 | l :: r, d + 1, b, d' + 1, i' => by simp [hPushAt, hGet, hNextAt, hGet_pushAt r d b d' i']
theorem hNextAt_pushAt : ∀ (H : Heap) (d : Nat) (b : Blk) (d' : Nat), hNextAt (hPushAt H d b) d' = if d' = d ∧ d < H.length then hNextAt H d + 1 else hNextAt H d'
 | [], d, b, d' => by simp [hPushAt]
 | l :: r, 0, b, 0 => by simp [hPushAt, hNextAt]
 | l :: r, 0, b, d' + 1 => by simp [hPushAt, hNextAt]
 | l :: r, d + 1, b, 0 => by simp [hPushAt, hNextAt]
 | l :: r, d + 1, b, d' + 1 => by simp [hPushAt, hNextAt, hNextAt_pushAt r d b d']
theorem hLock_pushAt : ∀ (H : Heap) (d : Nat) (b : Blk) (d' : Nat), hLock (hPushAt H d b) d' = hLock H d'
 | [], d, b, d' => rfl
 | l :: r, 0, b, 0 => rfl
 | l :: r, 0, b, d' + 1 => rfl
 | l :: r, d + 1, b, 0 => rfl
 | l :: r, d + 1, b, d' + 1 => hLock_pushAt r d b d'
theorem setBlk_push : ∀ (l : List (Nat × Blk)) (i : Nat) (x y : Nat × Blk), i < l.length → setBlk (l ++ [y]) i x = setBlk l i x ++ [y]
 | [], i, x, y, h => by simp at h
 | b :: l, 0, x, y, h => rfl
 | b :: l, i + 1, x, y, h => by simp [setBlk, setBlk_push l i x y (by simpa using h)]
theorem hSet_pushAt : ∀ (H : Heap) (d i : Nat) (x : Nat × Blk) (b : Blk), i < hNextAt H d → hPushAt (hSet H d i x) d b = hSet (hPushAt H d b) d i x
 | [], d, i, x, b, h => by simp [hNextAt] at h
 | l :: r, 0, i, x, b, h => by simp [hSet, hPushAt, setBlk_push _ _ _ _ (show i < l.bs.length from h)]
 | l :: r, d + 1, i, x, b, h => by simp [hSet, hPushAt, hSet_pushAt r d i x b h]
theorem hNextAt_len : ∀ (H : Heap) (d : Nat), 0 < hNextAt H d → d < H.length
 | [], d, h => by simp [hNextAt] at h
 | l :: r, 0, h => by simp
 | l :: r, d + 1, h => by have := hNextAt_len r d h; simp; omega
theorem hNextAt_kill (H : Heap) (d i d' : Nat) : hNextAt (hKill H d i) d' = hNextAt H d' := hNextAt_set _ _ _ _ _
theorem hLock_kill (H : Heap) (d i d' : Nat) : hLock (hKill H d i) d' = hLock H d' := hLock_set _ _ _ _ _
theorem hKill_len (H : Heap) (d i : Nat) : (hKill H d i).length = H.length := hSet_len _ _ _ _
theorem hPushAt_len : ∀ (H : Heap) (d : Nat) (b : Blk), (hPushAt H d b).length = H.length
 | [], _, _ => rfl
 | l :: r, 0, _ => rfl
 | l :: r, d + 1, b => by simp [hPushAt, hPushAt_len r d b]

theorem HRel.move {p : Pst} {M : Mu} {H : Heap} {w : World} (h : HRel p M H w) {j ver d b o t : Nat} {q : Row} (hq : hRow H 0 j ver = some q) (hm : M 0 j ver = some (b, o, t)) (hl : hLock H 0 = false) (hld : hLock H d = false) (hd : d < H.length) (hd0 : d ≠ 0) :
 Evo p M H w p (muSet M d (hNextAt H d) 0 (b, o, t)) (hPushAt (hKill H 0 j) d (.row (dnR d q))) w := by
 have hg := hRow_some hq
 obtain ⟨b', o', t', k1, k2, k3⟩ := h.live _ _ _ _ hg (by simp)
 rw [hm] at k1
 simp only [Option.some.injEq, Prod.mk.injEq] at k1
 obtain ⟨rfl, rfl, rfl⟩ := k1
 have hle : Mu.le M (muSet M d (hNextAt H d) 0 (b, o, t)) := muSet_le fun u hu => by
  have := (h.dom _ _ _ _ hu).1
  omega
 have hk := h.kill 0 j
 have hB : BRel p ((muSet M d (hNextAt H d) 0 (b, o, t)).up d) (.row (dnR d q)) b o t w := by
  obtain ⟨c, e, e1, e2, e3, e4⟩ := k2
  refine ⟨c, e, e1, e2, by rw [dnR_len]; exact e3, ?_⟩
  have e5 : RRel p M q (fun j => c.getD (o + j) Go.undef) := e4
  have e6 := e5.dnR (k := d)
  exact fun x hx => ⟨(e6 x hx).1.mono (Pst.le.refl _) ((hle.up d).muR _), (e6 x hx).2⟩
 have get : ∀ d1 i1, hGet (hPushAt (hKill H 0 j) d (.row (dnR d q))) d1 i1 = if d1 = d ∧ i1 = hNextAt H d then (0, .row (dnR d q)) else if d1 = 0 ∧ i1 = j then ((hGet H 0 j).1, .dead) else hGet H d1 i1 := by
  intro d1 i1
  rw [hGet_pushAt, hNextAt_kill, hKill_len, hGet_kill]
  by_cases e : d1 = d ∧ i1 = hNextAt H d
  · rw [if_pos ⟨e.1, e.2, hd⟩, if_pos e]
  · rw [if_neg (fun x => e ⟨x.1, x.2.1⟩), if_neg e]
 -- no other block leads to b
 have other : ∀ d1 i1 v1 B1 o1 t1, hGet H d1 i1 = (v1, B1) → B1 ≠ .dead → M d1 i1 v1 = some (b, o1, t1) → d1 = 0 ∧ i1 = j := by
  intro d1 i1 v1 B1 o1 t1 g1 n1 m1
  have := h.apart d1 i1 v1 B1 0 j ver (.row q) b o1 t1 o t g1 n1 hg (by simp) m1 hm
  exact this
 refine ⟨Pst.le.refl _, hle, ⟨h.pers, ?_, ?_, ?_⟩, Stay.refl _ _, ?_, fun b o v hv => .inl hv, ?_, fun d' => by rw [hLock_pushAt, hLock_kill], ?_, ?_, by rw [hPushAt_len, hKill_len], fun d1 => ?_, fun d1 i1 v1 u hu => ?_⟩
 · intro d1 i1 v1 B1 g1 n1
   rw [get] at g1
   split at g1
   · rename_i e
     obtain ⟨rfl, rfl⟩ := e
     simp only [Prod.mk.injEq] at g1
     obtain ⟨rfl, rfl⟩ := g1
     exact ⟨b, o, t, by simp [muSet], hB, k3⟩
   · split at g1
     · simp only [Prod.mk.injEq] at g1; exact absurd g1.2.symm n1
     · obtain ⟨b1, o1, t1, j1, j2, j3⟩ := h.live _ _ _ _ g1 n1
       exact ⟨b1, o1, t1, hle _ _ _ _ j1, j2.mono (Pst.le.refl _) (hle.up _) rfl, j3⟩
 · intro d1 i1 v1 B1 d2 i2 v2 B2 bb o1 t1 o2 t2 g1 n1 g2 n2 m1 m2
   rw [get] at g1 g2
   simp only [muSet] at m1 m2
   split at g1
   · rename_i e1
     obtain ⟨rfl, rfl⟩ := e1
     simp only [Prod.mk.injEq] at g1
     obtain ⟨rfl, rfl⟩ := g1
     simp at m1
     split at g2
     · rename_i e2; exact ⟨e2.1.symm, e2.2.symm⟩
     · rename_i e2
       rw [if_neg (fun x => e2 ⟨x.1, x.2.1⟩)] at m2
       split at g2
       · simp only [Prod.mk.injEq] at g2; exact absurd g2.2.symm n2
       · rename_i e3
         exact absurd (other d2 i2 v2 B2 o2 t2 g2 n2 (by rw [m2, m1.1])) e3
   · rename_i e1
     rw [if_neg (fun x => e1 ⟨x.1, x.2.1⟩)] at m1
     split at g1
     · simp only [Prod.mk.injEq] at g1; exact absurd g1.2.symm n1
     · rename_i e3
       split at g2
       · rename_i e2
         obtain ⟨rfl, rfl⟩ := e2
         simp only [Prod.mk.injEq] at g2
         obtain ⟨rfl, rfl⟩ := g2
         simp at m2
         exact absurd (other d1 i1 v1 B1 o1 t1 g1 n1 (by rw [m1, m2.1])) e3
       · rename_i e2
         rw [if_neg (fun x => e2 ⟨x.1, x.2.1⟩)] at m2
         split at g2
         · simp only [Prod.mk.injEq] at g2; exact absurd g2.2.symm n2
         · exact h.apart d1 i1 v1 B1 d2 i2 v2 B2 bb o1 t1 o2 t2 g1 n1 g2 n2 m1 m2
 · intro d1 i1 v1 u hu
   simp only [muSet] at hu
   rw [hNextAt_pushAt, hNextAt_kill, hNextAt_kill, hKill_len, get]
   split at hu
   · rename_i e
     obtain ⟨rfl, rfl, rfl⟩ := e
     rw [if_pos ⟨rfl, hd⟩, if_pos ⟨rfl, rfl⟩]
     exact ⟨by omega, fun _ => Nat.le_refl _⟩
   · have := h.dom d1 i1 v1 u hu
     refine ⟨by split; · rename_i e; rw [e.1] at this; omega
                · exact this.1, ?_⟩
     split
     · rename_i e
       obtain ⟨rfl, rfl⟩ := e
       omega
     · split
       · rename_i e
         obtain ⟨rfl, rfl⟩ := e
         exact fun hne => absurd rfl hne
       · exact this.2
 · intro x hx hkx d1 i1 v1 B1 g1 n1 l1 o1 t1 m1
   rw [hLock_pushAt, hLock_kill] at l1
   rw [get] at g1
   simp only [muSet] at m1
   split at g1
   · rename_i e
     obtain ⟨rfl, rfl⟩ := e
     simp only [Prod.mk.injEq] at g1
     obtain ⟨rfl, rfl⟩ := g1
     simp at m1
     exact hkx 0 j ver (.row q) hg (by simp) hl o t (by rw [hm, m1.1])
   · rename_i e
     rw [if_neg (fun y => e ⟨y.1, y.2.1⟩)] at m1
     split at g1
     · simp only [Prod.mk.injEq] at g1; exact absurd g1.2.symm n1
     · exact hkx d1 i1 v1 B1 g1 n1 l1 o1 t1 m1
 · intro d1 i1 v1 b1 o1 t1 m1
   simp only [muSet] at m1
   split at m1
   · simp only [Option.some.injEq, Prod.mk.injEq] at m1
     exact .inr ⟨0, _, _, _, _, Nat.zero_le _, by rw [← m1.1]; exact hm⟩
   · exact .inr ⟨_, _, _, _, _, Nat.le_refl _, m1⟩
 · intro d1 i1 hd1 hl1
   rw [get, if_neg (by rintro ⟨rfl, _⟩; rw [hld] at hl1; simp at hl1), if_neg (fun e => hd1 e.1)]
 · intro d1 hd1 hl1
   rw [hNextAt_pushAt, hNextAt_kill, hNextAt_kill, if_neg]
   rintro ⟨rfl, _⟩; rw [hld] at hl1; simp at hl1
 · rw [hNextAt_pushAt, hNextAt_kill, hNextAt_kill]
   split
   · rename_i e; rw [e.1]; omega
   · exact Nat.le_refl _
 · simp only [muSet] at hu
   split at hu
   · rename_i e; obtain ⟨rfl, rfl, rfl⟩ := e
     exact .inr (.inl (Nat.le_refl _))
   · exact .inl hu

theorem store_rel' {P : Program} {p : Pst} {M : Mu} {H : Heap} {t : TypeId} {a x : AV} {ca cx : Value} {δ : Delta} {w : World} (h : storeV P H t a x = some δ)
 (ha : VRel p M a ca) (hx : VRel p M x cx) (hH : HRel p M H w) :
 ∃ w', (Instr.storeAt t ca cx).run P w = .ok () w' ∧ DRel p M H nx (.tup []) δ Go.undef w w' := by
 by_cases hδ : ∃ H', δ = .heap H'
 · obtain ⟨H', rfl⟩ := hδ
   unfold storeV at h
   cases ha <;> try (simp at h; done)
   rename_i d i ver off b o tt hm
   simp only at h
   split at h
   · simp at h
   · rename_i hl
     have hl : hLock H d = false := by simpa using hl
     cases hr : hRow H d i ver with
     | none => rw [hr] at h; simp at h
     | some r =>
       cases hs : sizeT P t with
       | none => rw [hr, hs] at h; simp at h
       | some n =>
         cases hq : x.row with
         | none => rw [hr, hs, hq] at h; simp at h
         | some q =>
           rw [hr, hs, hq] at h
           simp only at h
           split at h
           · rename_i hfit
             split at h
             · rename_i d' j ver' o' sz len cap _
               split at h
               · simp at h
               · rename_i hl0
                 have hl0 : hLock H 0 = false := by simpa using hl0
                 cases hq0 : hRow H 0 j ver' with
                 | none => rw [hq0] at h; simp at h
                 | some q0 =>
                   rw [hq0] at h
                   simp only [Option.some.injEq, Delta.heap.injEq] at h
                   cases hx with
                   | slc hmu hlc hc hnn hxx =>
                     rename_i bq oq tq xq cc
                     have hi : i < hNextAt H (d' + 1) := hGet_lt (by rw [hRow_some hr]; simp)
                     have hlen := hNextAt_len H (d' + 1) (by omega)
                     have mv := hH.move hq0 hmu hl0 hl hlen (by omega)
                     have m1 := mv.mu
                     have m2 := mv.rel
                     have hgr : hRow (hPushAt (hKill H 0 j) (d' + 1) (.row (dnR (d' + 1) q0))) (d' + 1) i ver = some r := by
                      unfold hRow
                      rw [hGet_pushAt, hNextAt_kill, if_neg (by omega), hGet_kill, if_neg (by omega), hRow_some hr]
                      simp
                     have hqn : q.len = 1 := by simp [AV.row] at hq; subst hq; rfl
                     have hv : VRel p ((muSet M (d' + 1) (hNextAt H (d' + 1)) 0 (bq, oq, tq)).up (d' + 1)) (.slc 0 (hNextAt H (d' + 1)) 0 o' sz len cap) (.slice (some ⟨bq, xq, none⟩) len cc) :=
                      .slc (by simp [Mu.up, muSet]) hlc hc hnn hxx
                     obtain ⟨w', s1, s2⟩ := setB_rel m2 (off := off) (q := .G [.slc 0 (hNextAt H (d' + 1)) 0 o' sz len cap]) (cs := #[.slice (some ⟨bq, xq, none⟩) len cc]) hgr (by rw [hLock_pushAt, hLock_kill]; exact hl) (m1 _ _ _ _ hm)
                      (fun y hy => by
                        obtain rfl : y = 0 := by simpa [Row.len] using hy
                        exact ⟨hv, rfl⟩) rfl (by show off + 1 ≤ r.len; omega) P (.tup []) Go.undef (.tup rfl (fun j hj => absurd hj (by simp)))
                     refine ⟨w', ?_, ?_⟩
                     · simp only [Instr.storeAt, Instr.sureAddr, Sem.run_bind, Result.andThen, Sem.run_pure, storeVar, run_sizeOf_of hs]
                       rw [if_neg (by simp [Value.cells]; omega)]
                       simpa [Sem.run_bind, Result.andThen, Value.cells] using s1
                     · obtain ⟨p', M', n1, n2⟩ := drel_on (by intro e; rw [e] at hgr; simp [hRow, hGet] at hgr) m2 s2
                       refine ⟨p', M', ?_, n2⟩
                       rw [← h, hSet_pushAt _ _ _ _ _ (by rw [hNextAt_kill]; exact hi)]
                       exact mv.trans n1
             · simp at h
           · simp at h
 · exact store_rel h (fun H' e => hδ ⟨H', e⟩) ha hx hH

end Go.Eng
end
