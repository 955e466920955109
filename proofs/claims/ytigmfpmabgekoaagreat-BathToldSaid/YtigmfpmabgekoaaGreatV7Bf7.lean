/- The law BathTold: whatever orders, order, birth and minute are given, the function returns true and leaves what was there as it was. No conditions. -/
import Derived.Test.YtigmfpmabgekoaaGreatV7Ba9
import Derived.Test.YtigmfpmabgekoaaGreatV7Bak0x8
namespace Go.Proofs.YtigmfpmabgekoaaGreat
open Go.ChangeShapes Go.WideShapes Go.ChangeAt Go.RowKit
set_option linter.unusedVariables false
set_option maxRecDepth 100000
theorem bathTold_law : ∀ xs, Eng.AllA [Eng.AOrd, Eng.AU8, Eng.AI32, Eng.AU16] xs → ∃ H', Eng.cd 15 (.fn 7) xs [⟨true, []⟩] = some (.bool true, H') := by
  intro xs h0
  obtain ⟨a0, ys0, rfl, ⟨l, z, rfl⟩, h1⟩ := Eng.allA_cons h0
  obtain ⟨a1, ys1, rfl, ⟨w, rfl, hw⟩, h2⟩ := Eng.allA_cons h1
  obtain ⟨a2, ys2, rfl, ⟨b, rfl, hb⟩, h3⟩ := Eng.allA_cons h2
  obtain ⟨a3, ys3, rfl, ⟨m, rfl, hm⟩, h4⟩ := Eng.allA_cons h3
  obtain rfl := Eng.allA_nil h4
  exact ⟨_, Eng.c7 0 l z _ w b m hw hb hm⟩
theorem bathTold_lifted (os : Os) (started : os.Started) (H : Type) (enc : TypeId × Value → H) :
    ReturnsInHanded {} Tryz.checked os 7 .any (Rows.bathToldSpec.pre6 enc Tryz.prog Tryz.f7 Rows.bathToldRow.domain false) (Rows.bathToldSpec.post enc Tryz.prog Tryz.f7 false true false false) := by
  refine returnsInHanded_of_change (C := Tryz.checked) Eng.own started (by kernel_rfl) Tryz.func7
    (ChangeSpec.witness6 (enc := enc) (C := Tryz.checked) false ⟨#[], #[.slice none 0 0, .int .u8 0, .int .i32 0, .int .u16 0], []⟩ 8 (by kernel_rfl) (by kernel_rfl) (by kernel_rfl) (by kernel_rfl)) ?_
  intro W base args ds gs before hval0 hW hcnd _
  have hval : ∀ (j : Nat) t v, Tryz.f7.params[j]? = some t → args[j]? = some v → Value.okWide Tryz.prog W .any base t v := hval0
  have hW' := hW
  obtain ⟨p, q, hA0, hV, rfl, hfz, hnd⟩ := hW
  have hA : DataW.TrodAll enc Tryz.prog W 0 (fun _ => true) true Tryz.f7.params.toList args.toList ds p := hA0
  rw [Tryz.params7] at hA hval
  have hA' := hA
  obtain ⟨v0, w0, d0, e0, p0, q0, hv0, rfl, rfl, h0, hA0⟩ := trodAll_cons hA
  obtain ⟨v1, w1, d1, e1, p1, q1, hv1, rfl, rfl, h1, hA1⟩ := trodAll_cons hA0
  obtain ⟨v2, w2, d2, e2, p2, q2, hv2, rfl, rfl, h2, hA2⟩ := trodAll_cons hA1
  obtain ⟨v3, w3, d3, e3, p3, q3, hv3, rfl, rfl, h3, hA3⟩ := trodAll_cons hA2
  obtain ⟨_, rfl, rfl⟩ := trodAll_nil hA3
  obtain ⟨rfl, rfl⟩ := trodVars_none hV
  clear hA0 hval0
  simp only [List.append_nil] at hW'
  refine (Eng.law_calls (ts := [22, 5, 21, 54]) (As := [Eng.AOrd, Eng.AU8, Eng.AI32, Eng.AU16]) ⟨Eng.argOrd, Eng.argU8, Eng.argI32, Eng.argU16, trivial⟩ bathTold_law (fun j t v h1 h2 => hval j t v (by simpa using h1) h2) hA').mono fun e W' ⟨he, hg⟩ => ?_
  subst he
  have hA2 : DataW.TrodAll enc Tryz.prog W 0 (fun _ => true) true [22, 5, 21, 54] args.toList _ _ := hA'
  simp only [List.append_nil] at hA2
  have old : ∀ x ∈ p0 ++ (p1 ++ (p2 ++ (p3))), x.block < W.heap.size := fun x hx => hW'.lt x hx
  refine ⟨_, rfl, Eng.post_of_below (pa := p0 ++ (p1 ++ (p2 ++ (p3)))) (pv := []) hW' hg (fun _ _ _ => trodAll_mk1 (shut_bool Tryz.underlying4 _)) (fun sp hs => ?_) (fun _ _ => rfl) (by simp)
    (ok_one (by kernel_rfl) rfl (okWide_bool_mk Tryz.underlying4 _))⟩
  rw [Tryz.params7]
  exact Eng.stays_all Eng.laidOut [22, 5, 21, 54] args.toList _ _ (by decide +kernel) hA2 (fun x hx => hg.same (old x hx)) hs

theorem told_holds : Rows.BathToldSaid :=
  OpenClaim.holds_of_wide 7 Tryz.f7 rfl rfl rfl rfl rfl rfl rfl ⟨rfl, rfl, rfl, rfl, rfl⟩ rfl rfl rfl rfl rfl (by kernel_rfl) Tryz.func7 (by kernel_rfl)
    (of_decide_eq_true (by kernel_rfl)) (by unfold Func.isWrapper; first | (rw [if_pos (by decide +kernel)]; kernel_rfl) | (rw [if_neg (by decide +kernel)]; exact ⟨rfl, rfl⟩))
    (fun os started H enc _ => bathTold_lifted os started H enc)
end Go.Proofs.YtigmfpmabgekoaaGreat
