/-
  No cell of these rows narrows 'for every input' (looked for: loops, veiled, ifaces, maps, wideKeys, modest, calm, conditions, laid).
  DERIVED. THE GIVEN ROWS OF THIS SEAT. 11 by the template 'for every input the law returns true; each argument reads behind the call as it read before'; 0 by the template 'total and deterministic' (their statements: YtigmfpmabgekoaaGreatTotals.lean).
  GIVEN WITH THE SEED: the statements are not yours to turn. If you find one false, say at which input.
  Laid BY PROGRAM, IN A SANDBOX (cutbox-rows.mjs): the forced cells as the released guide's own fill.sh prints them over the translation 85aeb1c815b5a605… (all of the seat's roots in one cut). By AI agents, Wed Nov 11 2026. No macro, syntax, notation, axiom, sorry.
-/
import Derived.Test.YtigmfpmabgekoaaGreatChecked
import GoSem.Claim
import GoSem.ClaimJoined
import GoSem.ClaimMapViews
import Derived.JoinedTies
import Derived.KernelRfl
namespace Go.Proofs.YtigmfpmabgekoaaGreat
/- THE CELL 'sum', in the pinned program and in every row, IS THE sha256 OF THE DUMP (.gsa) THAT YtigmfpmabgekoaaGreatProg.lean LOADS. Nothing in Lean hashes anything: it is a label: what it is worth is what the hold of that sum in a sandbox is worth. -/
noncomputable def Tryz.pinned : Pinned := { name := "ytigmfpmabgekoaagreat", sum := "85aeb1c815b5a605ff00ac0c3dbf38d3b361072347b5046551d555a53e4bbeb2", checked := Tryz.checked }
namespace Rows
def none {H : Type} : Left H := { results := [], args := [] }

/-- 'oxgalllaw07.BathOrders': WHATEVER THE INPUT: true; the input reads as it did. -/
def bathOrdersSpec : ChangeSpec := { name := "bathOrders", fn := fun _ => fun
  | [d1, d2, d3] => { results := [.lit (.bool true)], args := [d1, d2, d3] }
  | _ => none }
def bathOrdersRow : OpenClaim := { program := "ytigmfpmabgekoaagreat", sum := "85aeb1c815b5a605ff00ac0c3dbf38d3b361072347b5046551d555a53e4bbeb2", func := "oxgall/oxgalllaw07.BathOrders", spec := "bathOrders", unfollowed := true, recurses := true, plainKeys := false, apart := false }
def BathOrdersSaid : Prop := bathOrdersRow.holds Tryz.pinned (OpenSpec.ofChange bathOrdersSpec)

/-- ITS FALSE NEIGHBOUR: 'it returns false'. Refute it at one input. -/
def bathOrdersWrong : ChangeSpec := { name := "bathOrders", fn := fun _ => fun
  | [d1, d2, d3] => { results := [.lit (.bool false)], args := [d1, d2, d3] }
  | _ => none }
def BathOrdersWrongFalsely : Prop := bathOrdersRow.holds Tryz.pinned (OpenSpec.ofChange bathOrdersWrong)

/-- 'oxgalllaw07.BathBests': WHATEVER THE INPUT: true; the input reads as it did. -/
def bathBestsSpec : ChangeSpec := { name := "bathBests", fn := fun _ => fun
  | [d1, d2] => { results := [.lit (.bool true)], args := [d1, d2] }
  | _ => none }
def bathBestsRow : OpenClaim := { program := "ytigmfpmabgekoaagreat", sum := "85aeb1c815b5a605ff00ac0c3dbf38d3b361072347b5046551d555a53e4bbeb2", func := "oxgall/oxgalllaw07.BathBests", spec := "bathBests", unfollowed := true, recurses := true, plainKeys := false, apart := false }
def BathBestsSaid : Prop := bathBestsRow.holds Tryz.pinned (OpenSpec.ofChange bathBestsSpec)

/-- ITS FALSE NEIGHBOUR: 'it returns false'. Refute it at one input. -/
def bathBestsWrong : ChangeSpec := { name := "bathBests", fn := fun _ => fun
  | [d1, d2] => { results := [.lit (.bool false)], args := [d1, d2] }
  | _ => none }
def BathBestsWrongFalsely : Prop := bathBestsRow.holds Tryz.pinned (OpenSpec.ofChange bathBestsWrong)

/-- 'oxgalllaw07.BathAparts': WHATEVER THE INPUT: true; the input reads as it did. -/
def bathApartsSpec : ChangeSpec := { name := "bathAparts", fn := fun _ => fun
  | [d1, d2] => { results := [.lit (.bool true)], args := [d1, d2] }
  | _ => none }
def bathApartsRow : OpenClaim := { program := "ytigmfpmabgekoaagreat", sum := "85aeb1c815b5a605ff00ac0c3dbf38d3b361072347b5046551d555a53e4bbeb2", func := "oxgall/oxgalllaw07.BathAparts", spec := "bathAparts", unfollowed := true, recurses := true, plainKeys := false, apart := false }
def BathApartsSaid : Prop := bathApartsRow.holds Tryz.pinned (OpenSpec.ofChange bathApartsSpec)

/-- ITS FALSE NEIGHBOUR: 'it returns false'. Refute it at one input. -/
def bathApartsWrong : ChangeSpec := { name := "bathAparts", fn := fun _ => fun
  | [d1, d2] => { results := [.lit (.bool false)], args := [d1, d2] }
  | _ => none }
def BathApartsWrongFalsely : Prop := bathApartsRow.holds Tryz.pinned (OpenSpec.ofChange bathApartsWrong)

/-- 'oxgalllaw07.BathMosts': WHATEVER THE INPUT: true; the input reads as it did. -/
def bathMostsSpec : ChangeSpec := { name := "bathMosts", fn := fun _ => fun
  | [d1, d2] => { results := [.lit (.bool true)], args := [d1, d2] }
  | _ => none }
def bathMostsRow : OpenClaim := { program := "ytigmfpmabgekoaagreat", sum := "85aeb1c815b5a605ff00ac0c3dbf38d3b361072347b5046551d555a53e4bbeb2", func := "oxgall/oxgalllaw07.BathMosts", spec := "bathMosts", unfollowed := true, recurses := true, plainKeys := false, apart := false }
def BathMostsSaid : Prop := bathMostsRow.holds Tryz.pinned (OpenSpec.ofChange bathMostsSpec)

/-- ITS FALSE NEIGHBOUR: 'it returns false'. Refute it at one input. -/
def bathMostsWrong : ChangeSpec := { name := "bathMosts", fn := fun _ => fun
  | [d1, d2] => { results := [.lit (.bool false)], args := [d1, d2] }
  | _ => none }
def BathMostsWrongFalsely : Prop := bathMostsRow.holds Tryz.pinned (OpenSpec.ofChange bathMostsWrong)

/-- 'oxgalllaw07.BathTold': WHATEVER THE INPUT: true; the input reads as it did. -/
def bathToldSpec : ChangeSpec := { name := "bathTold", fn := fun _ => fun
  | [d1, d2, d3, d4] => { results := [.lit (.bool true)], args := [d1, d2, d3, d4] }
  | _ => none }
def bathToldRow : OpenClaim := { program := "ytigmfpmabgekoaagreat", sum := "85aeb1c815b5a605ff00ac0c3dbf38d3b361072347b5046551d555a53e4bbeb2", func := "oxgall/oxgalllaw07.BathTold", spec := "bathTold", unfollowed := true, recurses := true, plainKeys := false, apart := false }
def BathToldSaid : Prop := bathToldRow.holds Tryz.pinned (OpenSpec.ofChange bathToldSpec)

/-- ITS FALSE NEIGHBOUR: 'it returns false'. Refute it at one input. -/
def bathToldWrong : ChangeSpec := { name := "bathTold", fn := fun _ => fun
  | [d1, d2, d3, d4] => { results := [.lit (.bool false)], args := [d1, d2, d3, d4] }
  | _ => none }
def BathToldWrongFalsely : Prop := bathToldRow.holds Tryz.pinned (OpenSpec.ofChange bathToldWrong)

/-- 'oxgalllaw07.BathProved': WHATEVER THE INPUT: true; the input reads as it did. -/
def bathProvedSpec : ChangeSpec := { name := "bathProved", fn := fun _ => fun
  | [d1, d2, d3] => { results := [.lit (.bool true)], args := [d1, d2, d3] }
  | _ => none }
def bathProvedRow : OpenClaim := { program := "ytigmfpmabgekoaagreat", sum := "85aeb1c815b5a605ff00ac0c3dbf38d3b361072347b5046551d555a53e4bbeb2", func := "oxgall/oxgalllaw07.BathProved", spec := "bathProved", unfollowed := true, recurses := true, plainKeys := false, apart := false }
def BathProvedSaid : Prop := bathProvedRow.holds Tryz.pinned (OpenSpec.ofChange bathProvedSpec)

/-- ITS FALSE NEIGHBOUR: 'it returns false'. Refute it at one input. -/
def bathProvedWrong : ChangeSpec := { name := "bathProved", fn := fun _ => fun
  | [d1, d2, d3] => { results := [.lit (.bool false)], args := [d1, d2, d3] }
  | _ => none }
def BathProvedWrongFalsely : Prop := bathProvedRow.holds Tryz.pinned (OpenSpec.ofChange bathProvedWrong)

/-- 'oxgalllaw07.BathWorth': WHATEVER THE INPUT: true; the input reads as it did. -/
def bathWorthSpec : ChangeSpec := { name := "bathWorth", fn := fun _ => fun
  | [d1, d2, d3, d4, d5] => { results := [.lit (.bool true)], args := [d1, d2, d3, d4, d5] }
  | _ => none }
def bathWorthRow : OpenClaim := { program := "ytigmfpmabgekoaagreat", sum := "85aeb1c815b5a605ff00ac0c3dbf38d3b361072347b5046551d555a53e4bbeb2", func := "oxgall/oxgalllaw07.BathWorth", spec := "bathWorth", unfollowed := true, recurses := true, plainKeys := false, apart := false }
def BathWorthSaid : Prop := bathWorthRow.holds Tryz.pinned (OpenSpec.ofChange bathWorthSpec)

/-- ITS FALSE NEIGHBOUR: 'it returns false'. Refute it at one input. -/
def bathWorthWrong : ChangeSpec := { name := "bathWorth", fn := fun _ => fun
  | [d1, d2, d3, d4, d5] => { results := [.lit (.bool false)], args := [d1, d2, d3, d4, d5] }
  | _ => none }
def BathWorthWrongFalsely : Prop := bathWorthRow.holds Tryz.pinned (OpenSpec.ofChange bathWorthWrong)

/-- 'oxgalllaw07.BathEither': WHATEVER THE INPUT: true; the input reads as it did. -/
def bathEitherSpec : ChangeSpec := { name := "bathEither", fn := fun _ => fun
  | [d1, d2] => { results := [.lit (.bool true)], args := [d1, d2] }
  | _ => none }
def bathEitherRow : OpenClaim := { program := "ytigmfpmabgekoaagreat", sum := "85aeb1c815b5a605ff00ac0c3dbf38d3b361072347b5046551d555a53e4bbeb2", func := "oxgall/oxgalllaw07.BathEither", spec := "bathEither", unfollowed := true, recurses := true, plainKeys := false, apart := false }
def BathEitherSaid : Prop := bathEitherRow.holds Tryz.pinned (OpenSpec.ofChange bathEitherSpec)

/-- ITS FALSE NEIGHBOUR: 'it returns false'. Refute it at one input. -/
def bathEitherWrong : ChangeSpec := { name := "bathEither", fn := fun _ => fun
  | [d1, d2] => { results := [.lit (.bool false)], args := [d1, d2] }
  | _ => none }
def BathEitherWrongFalsely : Prop := bathEitherRow.holds Tryz.pinned (OpenSpec.ofChange bathEitherWrong)

/-- 'oxgalllaw07.BathMore': WHATEVER THE INPUT: true; the input reads as it did. -/
def bathMoreSpec : ChangeSpec := { name := "bathMore", fn := fun _ => fun
  | [d1, d2, d3, d4, d5] => { results := [.lit (.bool true)], args := [d1, d2, d3, d4, d5] }
  | _ => none }
def bathMoreRow : OpenClaim := { program := "ytigmfpmabgekoaagreat", sum := "85aeb1c815b5a605ff00ac0c3dbf38d3b361072347b5046551d555a53e4bbeb2", func := "oxgall/oxgalllaw07.BathMore", spec := "bathMore", unfollowed := true, recurses := true, plainKeys := false, apart := false }
def BathMoreSaid : Prop := bathMoreRow.holds Tryz.pinned (OpenSpec.ofChange bathMoreSpec)

/-- ITS FALSE NEIGHBOUR: 'it returns false'. Refute it at one input. -/
def bathMoreWrong : ChangeSpec := { name := "bathMore", fn := fun _ => fun
  | [d1, d2, d3, d4, d5] => { results := [.lit (.bool false)], args := [d1, d2, d3, d4, d5] }
  | _ => none }
def BathMoreWrongFalsely : Prop := bathMoreRow.holds Tryz.pinned (OpenSpec.ofChange bathMoreWrong)

/-- 'oxgalllaw07.BathMoved': WHATEVER THE INPUT: true; the input reads as it did. -/
def bathMovedSpec : ChangeSpec := { name := "bathMoved", fn := fun _ => fun
  | [d1, d2, d3, d4, d5] => { results := [.lit (.bool true)], args := [d1, d2, d3, d4, d5] }
  | _ => none }
def bathMovedRow : OpenClaim := { program := "ytigmfpmabgekoaagreat", sum := "85aeb1c815b5a605ff00ac0c3dbf38d3b361072347b5046551d555a53e4bbeb2", func := "oxgall/oxgalllaw07.BathMoved", spec := "bathMoved", unfollowed := true, recurses := true, plainKeys := false, apart := false }
def BathMovedSaid : Prop := bathMovedRow.holds Tryz.pinned (OpenSpec.ofChange bathMovedSpec)

/-- ITS FALSE NEIGHBOUR: 'it returns false'. Refute it at one input. -/
def bathMovedWrong : ChangeSpec := { name := "bathMoved", fn := fun _ => fun
  | [d1, d2, d3, d4, d5] => { results := [.lit (.bool false)], args := [d1, d2, d3, d4, d5] }
  | _ => none }
def BathMovedWrongFalsely : Prop := bathMovedRow.holds Tryz.pinned (OpenSpec.ofChange bathMovedWrong)

/-- 'oxgalllaw07.BathKnown': WHATEVER THE INPUT: true; the input reads as it did. -/
def bathKnownSpec : ChangeSpec := { name := "bathKnown", fn := fun _ => fun
  | [] => { results := [.lit (.bool true)], args := [] }
  | _ => none }
def bathKnownRow : OpenClaim := { program := "ytigmfpmabgekoaagreat", sum := "85aeb1c815b5a605ff00ac0c3dbf38d3b361072347b5046551d555a53e4bbeb2", func := "oxgall/oxgalllaw07.BathKnown", spec := "bathKnown", unfollowed := true, recurses := true, plainKeys := false, apart := false }
def BathKnownSaid : Prop := bathKnownRow.holds Tryz.pinned (OpenSpec.ofChange bathKnownSpec)

/-- ITS FALSE NEIGHBOUR: 'it returns false'. Refute it at one input. -/
def bathKnownWrong : ChangeSpec := { name := "bathKnown", fn := fun _ => fun
  | [] => { results := [.lit (.bool false)], args := [] }
  | _ => none }
def BathKnownWrongFalsely : Prop := bathKnownRow.holds Tryz.pinned (OpenSpec.ofChange bathKnownWrong)

/- THE SECOND FORM. 'bulk': how many values and letters a reading holds, each counted each time it is reached (what is shared counts as often as it is met; a slice's spare places count too). A statement '..UptoSaid' is the law's where the arguments, and the package variables that the reading takes, are together of bulk at most 1048576: NARROWER than '..Said'. Prove '..Said' where nothing that the law and all that it calls make is longer than what came in: it says more and counts as full. Else prove '..UptoSaid'. A law counts once. -/
mutual
def uptoBulk {H : Type} : DataW H → Nat
  | .lit (.string bytes) => bytes.length + 1
  | .lit _ => 1
  | .nil => 1
  | .ptr d => uptoBulk d + 1
  | .slice elems spare => uptoBulkAll elems + uptoBulkAll spare + 1
  | .agg parts => uptoBulkAll parts + 1
  | .iface _ d => uptoBulk d + 1
  | .map entries => uptoBulkEntries entries + 1
  | .held _ => 1
def uptoBulkAll {H : Type} : List (DataW H) → Nat
  | [] => 0
  | d :: r => uptoBulk d + uptoBulkAll r
def uptoBulkEntries {H : Type} : List (Lit × DataW H) → Nat
  | [] => 0
  | x :: r => uptoBulkEntry x + uptoBulkEntries r
def uptoBulkEntry {H : Type} : Lit × DataW H → Nat
  | (.string bytes, d) => bytes.length + uptoBulk d + 1
  | (_, d) => uptoBulk d + 1
 end
def uptoSmall : (H : Type) → List (DataW H) → Bool := fun _ ds => decide (uptoBulkAll ds ≤ 1048576)
def OpenSpec.upto (s : _root_.Go.ChangeSpec) : _root_.Go.OpenSpec := { _root_.Go.OpenSpec.ofChange s with cond := some uptoSmall }

/-- 'oxgalllaw07.BathOrders', WHERE WHAT IT READS IS OF BULK AT MOST 1048576: true; the input reads as it did. -/
def bathOrdersUptoRow : OpenClaim := { program := "ytigmfpmabgekoaagreat", sum := "85aeb1c815b5a605ff00ac0c3dbf38d3b361072347b5046551d555a53e4bbeb2", func := "oxgall/oxgalllaw07.BathOrders", spec := "bathOrders", unfollowed := true, recurses := true, plainKeys := false, apart := false, narrowed := true }
def BathOrdersUptoSaid : Prop := bathOrdersUptoRow.holds Tryz.pinned (OpenSpec.upto bathOrdersSpec)

/-- 'oxgalllaw07.BathBests', WHERE WHAT IT READS IS OF BULK AT MOST 1048576: true; the input reads as it did. -/
def bathBestsUptoRow : OpenClaim := { program := "ytigmfpmabgekoaagreat", sum := "85aeb1c815b5a605ff00ac0c3dbf38d3b361072347b5046551d555a53e4bbeb2", func := "oxgall/oxgalllaw07.BathBests", spec := "bathBests", unfollowed := true, recurses := true, plainKeys := false, apart := false, narrowed := true }
def BathBestsUptoSaid : Prop := bathBestsUptoRow.holds Tryz.pinned (OpenSpec.upto bathBestsSpec)

/-- 'oxgalllaw07.BathAparts', WHERE WHAT IT READS IS OF BULK AT MOST 1048576: true; the input reads as it did. -/
def bathApartsUptoRow : OpenClaim := { program := "ytigmfpmabgekoaagreat", sum := "85aeb1c815b5a605ff00ac0c3dbf38d3b361072347b5046551d555a53e4bbeb2", func := "oxgall/oxgalllaw07.BathAparts", spec := "bathAparts", unfollowed := true, recurses := true, plainKeys := false, apart := false, narrowed := true }
def BathApartsUptoSaid : Prop := bathApartsUptoRow.holds Tryz.pinned (OpenSpec.upto bathApartsSpec)

/-- 'oxgalllaw07.BathMosts', WHERE WHAT IT READS IS OF BULK AT MOST 1048576: true; the input reads as it did. -/
def bathMostsUptoRow : OpenClaim := { program := "ytigmfpmabgekoaagreat", sum := "85aeb1c815b5a605ff00ac0c3dbf38d3b361072347b5046551d555a53e4bbeb2", func := "oxgall/oxgalllaw07.BathMosts", spec := "bathMosts", unfollowed := true, recurses := true, plainKeys := false, apart := false, narrowed := true }
def BathMostsUptoSaid : Prop := bathMostsUptoRow.holds Tryz.pinned (OpenSpec.upto bathMostsSpec)

/-- 'oxgalllaw07.BathTold', WHERE WHAT IT READS IS OF BULK AT MOST 1048576: true; the input reads as it did. -/
def bathToldUptoRow : OpenClaim := { program := "ytigmfpmabgekoaagreat", sum := "85aeb1c815b5a605ff00ac0c3dbf38d3b361072347b5046551d555a53e4bbeb2", func := "oxgall/oxgalllaw07.BathTold", spec := "bathTold", unfollowed := true, recurses := true, plainKeys := false, apart := false, narrowed := true }
def BathToldUptoSaid : Prop := bathToldUptoRow.holds Tryz.pinned (OpenSpec.upto bathToldSpec)

/-- 'oxgalllaw07.BathProved', WHERE WHAT IT READS IS OF BULK AT MOST 1048576: true; the input reads as it did. -/
def bathProvedUptoRow : OpenClaim := { program := "ytigmfpmabgekoaagreat", sum := "85aeb1c815b5a605ff00ac0c3dbf38d3b361072347b5046551d555a53e4bbeb2", func := "oxgall/oxgalllaw07.BathProved", spec := "bathProved", unfollowed := true, recurses := true, plainKeys := false, apart := false, narrowed := true }
def BathProvedUptoSaid : Prop := bathProvedUptoRow.holds Tryz.pinned (OpenSpec.upto bathProvedSpec)

/-- 'oxgalllaw07.BathWorth', WHERE WHAT IT READS IS OF BULK AT MOST 1048576: true; the input reads as it did. -/
def bathWorthUptoRow : OpenClaim := { program := "ytigmfpmabgekoaagreat", sum := "85aeb1c815b5a605ff00ac0c3dbf38d3b361072347b5046551d555a53e4bbeb2", func := "oxgall/oxgalllaw07.BathWorth", spec := "bathWorth", unfollowed := true, recurses := true, plainKeys := false, apart := false, narrowed := true }
def BathWorthUptoSaid : Prop := bathWorthUptoRow.holds Tryz.pinned (OpenSpec.upto bathWorthSpec)

/-- 'oxgalllaw07.BathEither', WHERE WHAT IT READS IS OF BULK AT MOST 1048576: true; the input reads as it did. -/
def bathEitherUptoRow : OpenClaim := { program := "ytigmfpmabgekoaagreat", sum := "85aeb1c815b5a605ff00ac0c3dbf38d3b361072347b5046551d555a53e4bbeb2", func := "oxgall/oxgalllaw07.BathEither", spec := "bathEither", unfollowed := true, recurses := true, plainKeys := false, apart := false, narrowed := true }
def BathEitherUptoSaid : Prop := bathEitherUptoRow.holds Tryz.pinned (OpenSpec.upto bathEitherSpec)

/-- 'oxgalllaw07.BathMore', WHERE WHAT IT READS IS OF BULK AT MOST 1048576: true; the input reads as it did. -/
def bathMoreUptoRow : OpenClaim := { program := "ytigmfpmabgekoaagreat", sum := "85aeb1c815b5a605ff00ac0c3dbf38d3b361072347b5046551d555a53e4bbeb2", func := "oxgall/oxgalllaw07.BathMore", spec := "bathMore", unfollowed := true, recurses := true, plainKeys := false, apart := false, narrowed := true }
def BathMoreUptoSaid : Prop := bathMoreUptoRow.holds Tryz.pinned (OpenSpec.upto bathMoreSpec)

/-- 'oxgalllaw07.BathMoved', WHERE WHAT IT READS IS OF BULK AT MOST 1048576: true; the input reads as it did. -/
def bathMovedUptoRow : OpenClaim := { program := "ytigmfpmabgekoaagreat", sum := "85aeb1c815b5a605ff00ac0c3dbf38d3b361072347b5046551d555a53e4bbeb2", func := "oxgall/oxgalllaw07.BathMoved", spec := "bathMoved", unfollowed := true, recurses := true, plainKeys := false, apart := false, narrowed := true }
def BathMovedUptoSaid : Prop := bathMovedUptoRow.holds Tryz.pinned (OpenSpec.upto bathMovedSpec)

/-- 'oxgalllaw07.BathKnown', WHERE WHAT IT READS IS OF BULK AT MOST 1048576: true; the input reads as it did. -/
def bathKnownUptoRow : OpenClaim := { program := "ytigmfpmabgekoaagreat", sum := "85aeb1c815b5a605ff00ac0c3dbf38d3b361072347b5046551d555a53e4bbeb2", func := "oxgall/oxgalllaw07.BathKnown", spec := "bathKnown", unfollowed := true, recurses := true, plainKeys := false, apart := false, narrowed := true }
def BathKnownUptoSaid : Prop := bathKnownUptoRow.holds Tryz.pinned (OpenSpec.upto bathKnownSpec)

end Rows
end Go.Proofs.YtigmfpmabgekoaaGreat
