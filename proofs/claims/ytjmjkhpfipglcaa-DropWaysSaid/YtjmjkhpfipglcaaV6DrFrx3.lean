/- Drop: the frame of the laws: arguments, a law's call, what is left as it was. -/
import Derived.Test.YtjmjkhpfipglcaaV6Wix8
import Derived.Test.YtjmjkhpfipglcaaV6DrAx4
import Derived.Test.YtjmjkhpfipglcaaRows
import Derived.Test.YtjmjkhpfipglcaaChecked
import Derived.ProofKit
import Derived.OpenShut
section
namespace Go.Eng
open Go.Proofs Go.ChangeShapes Go.WideShapes Go.ChangeAt Go.RowKit
set_option linter.unusedVariables false
set_option maxRecDepth 100000
def ArgOk (t : TypeId) (A : AV → Prop) : Prop := ∀ (H : Type) (enc : TypeId × Value → H) (w : World) (r : Reach) (b0 base : Nat) (sp : Nat → Bool) (held : Bool) (v : Value) (d : DataW H) (ps : List MemPlace),
 Value.okWide Try.prog w r b0 t v → DataW.Trod enc Try.prog w base sp held t v d ps → ∃ a, A a ∧ VRel (Pw w) Mu.no a v
def AllA : List (AV → Prop) → List AV → Prop
 | [], [] => True
 | A :: As, a :: xs => A a ∧ AllA As xs
 | _, _ => False
theorem allA_cons {A : AV → Prop} {As : List (AV → Prop)} {xs : List AV} (h : AllA (A :: As) xs) : ∃ a ys, xs = a :: ys ∧ A a ∧ AllA As ys := by
 cases xs with
 | nil => exact h.elim
 | cons a ys => exact ⟨a, ys, rfl, h.1, h.2⟩
theorem allA_nil {xs : List AV} (h : AllA [] xs) : xs = [] := by
 cases xs with
 | nil => rfl
 | cons a ys => exact h.elim
def AllT : List TypeId → List (AV → Prop) → Prop
 | [], [] => True
 | t :: ts, A :: As => ArgOk t A ∧ AllT ts As
 | _, _ => False
theorem args_ok {H : Type} {enc : TypeId × Value → H} {w : World} {r : Reach} {b0 base : Nat} {sp : Nat → Bool} {held : Bool} : ∀ (ts : List TypeId) (As : List (AV → Prop)) (vs : List Value) (ds : List (DataW H)) (ps : List MemPlace), AllT ts As →
 (∀ (j : Nat) t v, ts[j]? = some t → vs[j]? = some v → Value.okWide Try.prog w r b0 t v) → DataW.TrodAll enc Try.prog w base sp held ts vs ds ps → ∃ xs, AllA As xs ∧ vs.length = xs.length ∧ ∀ j, j < xs.length → VRel (Pw w) Mu.no (xs.getD j .undef) (vs.getD j undef)
 | [], [], vs, ds, ps, _, _, h => by
   obtain ⟨rfl, rfl, rfl⟩ := trodAll_nil h
   exact ⟨[], trivial, rfl, fun j hj => by simp at hj⟩
 | t :: ts, A :: As, vs, ds, ps, hT, hv, h => by
   obtain ⟨v, vs', d, ds', p, q, rfl, rfl, rfl, h1, h2⟩ := trodAll_cons h
   obtain ⟨a, ha, hr⟩ := hT.1 H enc w r b0 base sp held v d p (hv 0 t v rfl rfl) h1
   obtain ⟨xs, hA, hl, hR⟩ := args_ok ts As vs' ds' q hT.2 (fun j t' v' e1 e2 => hv (j + 1) t' v' (by simpa using e1) (by simpa using e2)) h2
   refine ⟨a :: xs, ⟨ha, hA⟩, by simp [hl], fun j hj => ?_⟩
   cases j with
   | zero => exact hr
   | succ j => simpa using hR j (by simpa using hj)
 | [], _ :: _, _, _, _, hT, _, _ => hT.elim
 | _ :: _, [], _, _, _, hT, _, _ => hT.elim
theorem stays_all {H : Type} {enc : TypeId × Value → H} {W W' : World} {base : Nat} {sp' : Nat → Bool} (hl : laidOutB Try.prog = true) : ∀ (ts : List TypeId) (vs : List Value) (ds : List (DataW H)) (ps : List MemPlace), (∀ t ∈ ts, Try.prog.readableRec t = true ∧ t < Try.prog.types.size) →
 DataW.TrodAll enc Try.prog W base (fun _ => true) true ts vs ds ps → (∀ p ∈ ps, W.sameAt W' p) → (∀ p ∈ ps, sp' p.block = true) → DataW.TrodAll enc Try.prog W' base sp' true ts vs ds ps
 | [], vs, ds, ps, _, h, _, _ => by
   obtain ⟨rfl, rfl, rfl⟩ := trodAll_nil h
   exact trodAll_mk0
 | t :: ts, vs, ds, ps, ht, h, hs, hp => by
   obtain ⟨v, vs', d, ds', p, q, rfl, rfl, rfl, h1, h2⟩ := trodAll_cons h
   obtain ⟨r1, r2⟩ := ht t (by simp)
   refine ⟨p, q, ?_, stays_all hl ts vs' ds' q (fun t' h' => ht t' (List.mem_cons_of_mem _ h')) h2 (fun x hx => hs x (List.mem_append_right _ hx)) (fun x hx => hp x (List.mem_append_right _ hx)), rfl⟩
   exact WideElems.Trod_stays hl r1 r2 h1 (fun x hx => hs x (List.mem_append_left _ hx)) (fun x hx => hp x (List.mem_append_left _ hx))
theorem cd_ok (hN : Named Try.prog) (hm : Try.prog.follows .mixedOrders = true) (hW : OneOk Try.prog ⟨16, [], .bool true⟩) (n : Nat) : CallOk Try.prog (cd n) :=
 callN_rel hN (drawOk hN hm) (oraS_ok _ (fun e he => by
  simp only [List.mem_singleton] at he
  subst he
  exact hW)) Kt.kt 100000 n
theorem law_calls {f : FuncId} {ts : List TypeId} {As : List (AV → Prop)} (hT : AllT ts As) {n : Nat} (hlaw : ∀ xs, AllA As xs → ∃ H', cd n (.fn f) xs [⟨true, []⟩] = some (.bool true, H')) {H : Type} {enc : TypeId × Value → H} {w : World} {r : Reach} {b0 base : Nat} {sp : Nat → Bool} {held : Bool} {args : Array Value} {ds : List (DataW H)} {ps : List MemPlace}
 (hv : ∀ (j : Nat) t v, ts[j]? = some t → args[j]? = some v → Value.okWide Try.prog w r b0 t v) (h : DataW.TrodAll enc Try.prog w base sp held ts args.toList ds ps) :
 Calls Try.prog f args w (fun e w' => e = .returned (.bool true) ∧ Go.RowKit.Below w.heap.size w w') := by
 obtain ⟨xs, hA, hl, hR⟩ := args_ok ts As args.toList ds ps hT (fun j t v e1 e2 => hv j t v e1 (by simpa using e2)) h
 obtain ⟨H', hc⟩ := hlaw xs hA
 refine calls_law (cd_ok Ytjmjkhpfipglcaa.Known.named Ytjmjkhpfipglcaa.Known.mixed Ytjmjkhpfipglcaa.Known.ok14 n) hc ⟨by simpa using hl, fun j hj => ?_⟩
 have := hR j hj
 have e : args.toList.getD j undef = args.getD j undef := by
  rw [Array.getD_eq_getD_getElem?, List.getD_eq_getElem?_getD, Array.getElem?_toList]
 rwa [e] at this
def ABath (a : AV) : Prop := ∃ w ls zs ld zd, a = bathA w ls zs ld zd
def AInt (a : AV) : Prop := ∃ n : Int, a = .int .i64 n ∧ -9223372036854775808 ≤ n ∧ n ≤ 9223372036854775807
def ABool (a : AV) : Prop := ∃ b, a = .bool b
theorem argBath : ArgOk 25 ABath := fun H enc w r b0 base sp held v d ps hv h => by
 obtain ⟨wd, ls, zs, ld, zd, hr⟩ := bath_arg hv h
 exact ⟨_, ⟨wd, ls, zs, ld, zd, rfl⟩, hr⟩
theorem argInt : ArgOk 3 AInt := fun H enc w r b0 base sp held v d ps hv h => by
 obtain ⟨fuel, hf⟩ := h
 obtain ⟨n, e, _, hw⟩ := DataW.trod_int Try.underlying3 hf
 have e3 : Try.prog.cellsOf 3 = 1 := by kernel_rfl
 obtain ⟨s, rfl⟩ := WideShapes.okWide_int Try.underlying3 hv
 have : s = n := by simpa [Value.cells] using e
 subst this
 refine ⟨_, ⟨s, rfl, ?_⟩, .int _ _⟩
 simp [Lit.wf, IntKind.min, IntKind.max, IntKind.signed, IntKind.bits] at hw
 omega
theorem own : ownKnob Try.prog.godebug = none := by kernel_rfl
theorem laidOut : laidOutB Try.prog = true := by kernel_rfl
end Go.Eng
end
section
namespace Go.Eng
open Go.Proofs Go.ChangeShapes Go.WideShapes Go.ChangeAt Go.RowKit
set_option linter.unusedVariables false
set_option maxRecDepth 100000
theorem argSlice {t e n : Nat} {k : IntKind} (ht : Try.prog.underlying t = some (.slice e)) (he : FlatK k Try.prog e n) (hn : 0 < n) (hc : Try.prog.cellsOf e = n) : ArgOk t (fun a => ∃ (len : Nat) (z : Nat → Int), a = .slcT none (.M [.arr k z (len * n)]) n len false ∧ ∀ j, (Lit.int k (z j)).wf = true) := fun H enc w r b0 base sp held v d ps hv h => by
 simp only [Value.okWide, ht] at hv
 have hcell : v.cells.toList = [v] := by
  simp only [Cell.okWide, ht] at hv
  cases v <;> simp_all [Cell.ok] <;> rfl
 obtain ⟨fuel, hf⟩ := h
 rw [hcell] at hf
 have h0 : (Lit.int k 0).wf = true := by cases k <;> rfl
 rcases slice_flat ht he hn hc (slice_spot ht hv) hf with rfl | ⟨zs, len, h1, h2⟩
 · exact ⟨_, ⟨0, fun _ => 0, rfl, fun _ => h0⟩, .slcN⟩
 · refine ⟨_, ⟨len, fun j => if j < len * n then zs j else 0, rfl, fun j => ?_⟩, ?_⟩
   · dsimp only
     split
     · exact h2 _ (by assumption)
     · exact h0
   · have h3 := toM h1
     cases h3 with
     | slcN => exact .slcN
     | slcT vs a0 a1 hv' hl hf' hx =>
       refine .slcT vs a0 a1 (fun j hj => ?_) hl hf' hx
       have := hv' j hj
       have hj' : j < len * n := by simpa [Row.len, lenM, segLen] using hj
       simp only [Row.get, getM, if_pos hj'] at this ⊢
       exact this.anyInt _ _
end Go.Eng
end
section
namespace Go.Eng
open Go.Proofs Go.ChangeShapes Go.WideShapes Go.ChangeAt Go.RowKit
set_option linter.unusedVariables false
set_option maxRecDepth 100000
theorem argBool : ArgOk 4 ABool := fun H enc w r b0 base sp held v d ps hv h => by
 obtain ⟨b, rfl⟩ := WideShapes.okWide_bool Try.underlying4 hv
 exact ⟨_, ⟨b, rfl⟩, .bool _⟩
def AI64s (a : AV) : Prop := ∃ (len : Nat) (z : Nat → Int), a = .slcT none (.M [.arr .i64 z len]) 1 len false
theorem argI64s : ArgOk 42 AI64s := fun H enc w r b0 base sp held v d ps hv h => by
 obtain ⟨a, ⟨len, z, rfl, hz⟩, hr⟩ := argSlice Try.underlying42 (flat_int Try.underlying3) (by omega) (by kernel_rfl) H enc w r b0 base sp held v d ps hv h
 exact ⟨_, ⟨len, z, by rw [Nat.mul_one]⟩, hr⟩
end Go.Eng
end
