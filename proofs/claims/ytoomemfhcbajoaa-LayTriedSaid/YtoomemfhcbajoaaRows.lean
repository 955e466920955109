/-
  No cell of these rows narrows 'for every input' (looked for: loops, veiled, ifaces, maps, wideKeys, modest, calm, conditions, laid).
  DERIVED. THE GIVEN ROWS OF THIS SEAT. 12 by the template 'for every input the law returns true; each argument reads behind the call as it read before'; 0 by the template 'total and deterministic' (their statements: YtoomemfhcbajoaaTotals.lean).
  GIVEN WITH THE SEED: the statements are not yours to turn. If you find one false, say at which input.
  Laid BY PROGRAM, IN A SANDBOX (cutbox-rows.mjs): the forced cells as the released guide's own fill.sh prints them over the translation 947f0887611594b0… (all of the seat's roots in one cut). By AI agents, Wed Nov 11 2026. No macro, syntax, notation, axiom, sorry.
-/
import Derived.Test.YtoomemfhcbajoaaChecked
import GoSem.Claim
import GoSem.ClaimJoined
import GoSem.ClaimMapViews
import Derived.JoinedTies
import Derived.KernelRfl
namespace Go.Proofs.Ytoomemfhcbajoaa
/- THE CELL 'sum', in the pinned program and in every row, IS THE sha256 OF THE DUMP (.gsa) THAT YtoomemfhcbajoaaProg.lean LOADS. Nothing in Lean hashes anything: it is a label: what it is worth is what the hold of that sum in a sandbox is worth. -/
noncomputable def Try.pinned : Pinned := { name := "ytoomemfhcbajoaa", sum := "947f0887611594b01d48581af703a4deb67b6141b2490b0ddfb5361851b309f3", checked := Try.checked }
namespace Rows
def none {H : Type} : Left H := { results := [], args := [] }

/-- 'oxgalllaw09.LaySheets': WHATEVER THE INPUT: true; the input reads as it did. -/
def laySheetsSpec : ChangeSpec := { name := "laySheets", fn := fun _ => fun
  | [d] => { results := [.lit (.bool true)], args := [d] }
  | _ => none }
def laySheetsRow : OpenClaim := { program := "ytoomemfhcbajoaa", sum := "947f0887611594b01d48581af703a4deb67b6141b2490b0ddfb5361851b309f3", func := "oxgall/oxgalllaw09.LaySheets", spec := "laySheets", unfollowed := true, recurses := true, plainKeys := false, apart := false }
def LaySheetsSaid : Prop := laySheetsRow.holds Try.pinned (OpenSpec.ofChange laySheetsSpec)

/-- ITS FALSE NEIGHBOUR: 'it returns false'. Refute it at one input. -/
def laySheetsWrong : ChangeSpec := { name := "laySheets", fn := fun _ => fun
  | [d] => { results := [.lit (.bool false)], args := [d] }
  | _ => none }
def LaySheetsWrongFalsely : Prop := laySheetsRow.holds Try.pinned (OpenSpec.ofChange laySheetsWrong)

/-- 'oxgalllaw09.LayPlans': WHATEVER THE INPUT: true; the input reads as it did. -/
def layPlansSpec : ChangeSpec := { name := "layPlans", fn := fun _ => fun
  | [d1, d2, d3] => { results := [.lit (.bool true)], args := [d1, d2, d3] }
  | _ => none }
def layPlansRow : OpenClaim := { program := "ytoomemfhcbajoaa", sum := "947f0887611594b01d48581af703a4deb67b6141b2490b0ddfb5361851b309f3", func := "oxgall/oxgalllaw09.LayPlans", spec := "layPlans", unfollowed := true, recurses := true, plainKeys := false, apart := false }
def LayPlansSaid : Prop := layPlansRow.holds Try.pinned (OpenSpec.ofChange layPlansSpec)

/-- ITS FALSE NEIGHBOUR: 'it returns false'. Refute it at one input. -/
def layPlansWrong : ChangeSpec := { name := "layPlans", fn := fun _ => fun
  | [d1, d2, d3] => { results := [.lit (.bool false)], args := [d1, d2, d3] }
  | _ => none }
def LayPlansWrongFalsely : Prop := layPlansRow.holds Try.pinned (OpenSpec.ofChange layPlansWrong)

/-- 'oxgalllaw09.LayCrowds': WHATEVER THE INPUT: true; the input reads as it did. -/
def layCrowdsSpec : ChangeSpec := { name := "layCrowds", fn := fun _ => fun
  | [d1, d2, d3] => { results := [.lit (.bool true)], args := [d1, d2, d3] }
  | _ => none }
def layCrowdsRow : OpenClaim := { program := "ytoomemfhcbajoaa", sum := "947f0887611594b01d48581af703a4deb67b6141b2490b0ddfb5361851b309f3", func := "oxgall/oxgalllaw09.LayCrowds", spec := "layCrowds", unfollowed := true, recurses := true, plainKeys := false, apart := false }
def LayCrowdsSaid : Prop := layCrowdsRow.holds Try.pinned (OpenSpec.ofChange layCrowdsSpec)

/-- ITS FALSE NEIGHBOUR: 'it returns false'. Refute it at one input. -/
def layCrowdsWrong : ChangeSpec := { name := "layCrowds", fn := fun _ => fun
  | [d1, d2, d3] => { results := [.lit (.bool false)], args := [d1, d2, d3] }
  | _ => none }
def LayCrowdsWrongFalsely : Prop := layCrowdsRow.holds Try.pinned (OpenSpec.ofChange layCrowdsWrong)

/-- 'oxgalllaw09.LayEarlies': WHATEVER THE INPUT: true; the input reads as it did. -/
def layEarliesSpec : ChangeSpec := { name := "layEarlies", fn := fun _ => fun
  | [d1, d2, d3] => { results := [.lit (.bool true)], args := [d1, d2, d3] }
  | _ => none }
def layEarliesRow : OpenClaim := { program := "ytoomemfhcbajoaa", sum := "947f0887611594b01d48581af703a4deb67b6141b2490b0ddfb5361851b309f3", func := "oxgall/oxgalllaw09.LayEarlies", spec := "layEarlies", unfollowed := true, recurses := true, plainKeys := false, apart := false }
def LayEarliesSaid : Prop := layEarliesRow.holds Try.pinned (OpenSpec.ofChange layEarliesSpec)

/-- ITS FALSE NEIGHBOUR: 'it returns false'. Refute it at one input. -/
def layEarliesWrong : ChangeSpec := { name := "layEarlies", fn := fun _ => fun
  | [d1, d2, d3] => { results := [.lit (.bool false)], args := [d1, d2, d3] }
  | _ => none }
def LayEarliesWrongFalsely : Prop := layEarliesRow.holds Try.pinned (OpenSpec.ofChange layEarliesWrong)

/-- 'oxgalllaw09.LayEither': WHATEVER THE INPUT: true; the input reads as it did. -/
def layEitherSpec : ChangeSpec := { name := "layEither", fn := fun _ => fun
  | [d1, d2, d3, d4] => { results := [.lit (.bool true)], args := [d1, d2, d3, d4] }
  | _ => none }
def layEitherRow : OpenClaim := { program := "ytoomemfhcbajoaa", sum := "947f0887611594b01d48581af703a4deb67b6141b2490b0ddfb5361851b309f3", func := "oxgall/oxgalllaw09.LayEither", spec := "layEither", unfollowed := true, recurses := true, plainKeys := false, apart := false }
def LayEitherSaid : Prop := layEitherRow.holds Try.pinned (OpenSpec.ofChange layEitherSpec)

/-- ITS FALSE NEIGHBOUR: 'it returns false'. Refute it at one input. -/
def layEitherWrong : ChangeSpec := { name := "layEither", fn := fun _ => fun
  | [d1, d2, d3, d4] => { results := [.lit (.bool false)], args := [d1, d2, d3, d4] }
  | _ => none }
def LayEitherWrongFalsely : Prop := layEitherRow.holds Try.pinned (OpenSpec.ofChange layEitherWrong)

/-- 'oxgalllaw09.LayTried': WHATEVER THE INPUT: true; the input reads as it did. -/
def layTriedSpec : ChangeSpec := { name := "layTried", fn := fun _ => fun
  | [d1, d2] => { results := [.lit (.bool true)], args := [d1, d2] }
  | _ => none }
def layTriedRow : OpenClaim := { program := "ytoomemfhcbajoaa", sum := "947f0887611594b01d48581af703a4deb67b6141b2490b0ddfb5361851b309f3", func := "oxgall/oxgalllaw09.LayTried", spec := "layTried", unfollowed := true, recurses := true, plainKeys := false, apart := false }
def LayTriedSaid : Prop := layTriedRow.holds Try.pinned (OpenSpec.ofChange layTriedSpec)

/-- ITS FALSE NEIGHBOUR: 'it returns false'. Refute it at one input. -/
def layTriedWrong : ChangeSpec := { name := "layTried", fn := fun _ => fun
  | [d1, d2] => { results := [.lit (.bool false)], args := [d1, d2] }
  | _ => none }
def LayTriedWrongFalsely : Prop := layTriedRow.holds Try.pinned (OpenSpec.ofChange layTriedWrong)

/-- 'oxgalllaw09.LayMore': WHATEVER THE INPUT: true; the input reads as it did. -/
def layMoreSpec : ChangeSpec := { name := "layMore", fn := fun _ => fun
  | [d1, d2, d3, d4, d5] => { results := [.lit (.bool true)], args := [d1, d2, d3, d4, d5] }
  | _ => none }
def layMoreRow : OpenClaim := { program := "ytoomemfhcbajoaa", sum := "947f0887611594b01d48581af703a4deb67b6141b2490b0ddfb5361851b309f3", func := "oxgall/oxgalllaw09.LayMore", spec := "layMore", unfollowed := true, recurses := true, plainKeys := false, apart := false }
def LayMoreSaid : Prop := layMoreRow.holds Try.pinned (OpenSpec.ofChange layMoreSpec)

/-- ITS FALSE NEIGHBOUR: 'it returns false'. Refute it at one input. -/
def layMoreWrong : ChangeSpec := { name := "layMore", fn := fun _ => fun
  | [d1, d2, d3, d4, d5] => { results := [.lit (.bool false)], args := [d1, d2, d3, d4, d5] }
  | _ => none }
def LayMoreWrongFalsely : Prop := layMoreRow.holds Try.pinned (OpenSpec.ofChange layMoreWrong)

/-- 'oxgalllaw09.LayTurns': WHATEVER THE INPUT: true; the input reads as it did. -/
def layTurnsSpec : ChangeSpec := { name := "layTurns", fn := fun _ => fun
  | [d1, d2] => { results := [.lit (.bool true)], args := [d1, d2] }
  | _ => none }
def layTurnsRow : OpenClaim := { program := "ytoomemfhcbajoaa", sum := "947f0887611594b01d48581af703a4deb67b6141b2490b0ddfb5361851b309f3", func := "oxgall/oxgalllaw09.LayTurns", spec := "layTurns", unfollowed := true, recurses := true, plainKeys := false, apart := false }
def LayTurnsSaid : Prop := layTurnsRow.holds Try.pinned (OpenSpec.ofChange layTurnsSpec)

/-- ITS FALSE NEIGHBOUR: 'it returns false'. Refute it at one input. -/
def layTurnsWrong : ChangeSpec := { name := "layTurns", fn := fun _ => fun
  | [d1, d2] => { results := [.lit (.bool false)], args := [d1, d2] }
  | _ => none }
def LayTurnsWrongFalsely : Prop := layTurnsRow.holds Try.pinned (OpenSpec.ofChange layTurnsWrong)

/-- 'oxgalllaw09.LayBounds': WHATEVER THE INPUT: true; the input reads as it did. -/
def layBoundsSpec : ChangeSpec := { name := "layBounds", fn := fun _ => fun
  | [d1, d2, d3, d4] => { results := [.lit (.bool true)], args := [d1, d2, d3, d4] }
  | _ => none }
def layBoundsRow : OpenClaim := { program := "ytoomemfhcbajoaa", sum := "947f0887611594b01d48581af703a4deb67b6141b2490b0ddfb5361851b309f3", func := "oxgall/oxgalllaw09.LayBounds", spec := "layBounds", unfollowed := true, recurses := true, plainKeys := false, apart := false }
def LayBoundsSaid : Prop := layBoundsRow.holds Try.pinned (OpenSpec.ofChange layBoundsSpec)

/-- ITS FALSE NEIGHBOUR: 'it returns false'. Refute it at one input. -/
def layBoundsWrong : ChangeSpec := { name := "layBounds", fn := fun _ => fun
  | [d1, d2, d3, d4] => { results := [.lit (.bool false)], args := [d1, d2, d3, d4] }
  | _ => none }
def LayBoundsWrongFalsely : Prop := layBoundsRow.holds Try.pinned (OpenSpec.ofChange layBoundsWrong)

/-- 'oxgalllaw09.LayRests': WHATEVER THE INPUT: true; the input reads as it did. -/
def layRestsSpec : ChangeSpec := { name := "layRests", fn := fun _ => fun
  | [d1, d2, d3] => { results := [.lit (.bool true)], args := [d1, d2, d3] }
  | _ => none }
def layRestsRow : OpenClaim := { program := "ytoomemfhcbajoaa", sum := "947f0887611594b01d48581af703a4deb67b6141b2490b0ddfb5361851b309f3", func := "oxgall/oxgalllaw09.LayRests", spec := "layRests", unfollowed := true, recurses := true, plainKeys := false, apart := false }
def LayRestsSaid : Prop := layRestsRow.holds Try.pinned (OpenSpec.ofChange layRestsSpec)

/-- ITS FALSE NEIGHBOUR: 'it returns false'. Refute it at one input. -/
def layRestsWrong : ChangeSpec := { name := "layRests", fn := fun _ => fun
  | [d1, d2, d3] => { results := [.lit (.bool false)], args := [d1, d2, d3] }
  | _ => none }
def LayRestsWrongFalsely : Prop := layRestsRow.holds Try.pinned (OpenSpec.ofChange layRestsWrong)

/-- 'oxgalllaw09.LayLines': WHATEVER THE INPUT: true; the input reads as it did. -/
def layLinesSpec : ChangeSpec := { name := "layLines", fn := fun _ => fun
  | [d1, d2, d3] => { results := [.lit (.bool true)], args := [d1, d2, d3] }
  | _ => none }
def layLinesRow : OpenClaim := { program := "ytoomemfhcbajoaa", sum := "947f0887611594b01d48581af703a4deb67b6141b2490b0ddfb5361851b309f3", func := "oxgall/oxgalllaw09.LayLines", spec := "layLines", unfollowed := true, recurses := true, plainKeys := false, apart := false }
def LayLinesSaid : Prop := layLinesRow.holds Try.pinned (OpenSpec.ofChange layLinesSpec)

/-- ITS FALSE NEIGHBOUR: 'it returns false'. Refute it at one input. -/
def layLinesWrong : ChangeSpec := { name := "layLines", fn := fun _ => fun
  | [d1, d2, d3] => { results := [.lit (.bool false)], args := [d1, d2, d3] }
  | _ => none }
def LayLinesWrongFalsely : Prop := layLinesRow.holds Try.pinned (OpenSpec.ofChange layLinesWrong)

/-- 'oxgalllaw09.LayKnown': WHATEVER THE INPUT: true; the input reads as it did. -/
def layKnownSpec : ChangeSpec := { name := "layKnown", fn := fun _ => fun
  | [] => { results := [.lit (.bool true)], args := [] }
  | _ => none }
def layKnownRow : OpenClaim := { program := "ytoomemfhcbajoaa", sum := "947f0887611594b01d48581af703a4deb67b6141b2490b0ddfb5361851b309f3", func := "oxgall/oxgalllaw09.LayKnown", spec := "layKnown", unfollowed := true, recurses := true, plainKeys := false, apart := false }
def LayKnownSaid : Prop := layKnownRow.holds Try.pinned (OpenSpec.ofChange layKnownSpec)

/-- ITS FALSE NEIGHBOUR: 'it returns false'. Refute it at one input. -/
def layKnownWrong : ChangeSpec := { name := "layKnown", fn := fun _ => fun
  | [] => { results := [.lit (.bool false)], args := [] }
  | _ => none }
def LayKnownWrongFalsely : Prop := layKnownRow.holds Try.pinned (OpenSpec.ofChange layKnownWrong)

/- THE SECOND FORM. 'bulk': how many values and letters a reading holds, each counted each time it is reached (what is shared counts as often as it is met; a slice's spare places count too). A statement '..UptoSaid' is the law's where the arguments, and the package variables that the reading takes, are together of bulk at most 1048576: NARROWER than '..Said'. Prove '..Said' where nothing that the law and all that it calls make is longer than what came in: it says more and counts as full. Else prove '..UptoSaid'. A law counts once. -/
mutual
def uptoBulk {H : Type} : DataW H → Nat
  | .lit (.string bytes) => bytes.length + 1
  | .lit _ => 1
  | .nil => 1
  | .ptr d => uptoBulk d + 1
  | .slice elems spare => uptoBulkAll elems + uptoBulkAll spare + 1
  | .agg parts => uptoBulkAll parts + 1
  | .iface _ d => uptoBulk d + 1
  | .map entries => uptoBulkEntries entries + 1
  | .held _ => 1
def uptoBulkAll {H : Type} : List (DataW H) → Nat
  | [] => 0
  | d :: r => uptoBulk d + uptoBulkAll r
def uptoBulkEntries {H : Type} : List (Lit × DataW H) → Nat
  | [] => 0
  | x :: r => uptoBulkEntry x + uptoBulkEntries r
def uptoBulkEntry {H : Type} : Lit × DataW H → Nat
  | (.string bytes, d) => bytes.length + uptoBulk d + 1
  | (_, d) => uptoBulk d + 1
 end
def uptoSmall : (H : Type) → List (DataW H) → Bool := fun _ ds => decide (uptoBulkAll ds ≤ 1048576)
def OpenSpec.upto (s : _root_.Go.ChangeSpec) : _root_.Go.OpenSpec := { _root_.Go.OpenSpec.ofChange s with cond := some uptoSmall }

/-- 'oxgalllaw09.LaySheets', WHERE WHAT IT READS IS OF BULK AT MOST 1048576: true; the input reads as it did. -/
def laySheetsUptoRow : OpenClaim := { program := "ytoomemfhcbajoaa", sum := "947f0887611594b01d48581af703a4deb67b6141b2490b0ddfb5361851b309f3", func := "oxgall/oxgalllaw09.LaySheets", spec := "laySheets", unfollowed := true, recurses := true, plainKeys := false, apart := false, narrowed := true }
def LaySheetsUptoSaid : Prop := laySheetsUptoRow.holds Try.pinned (OpenSpec.upto laySheetsSpec)

/-- 'oxgalllaw09.LayPlans', WHERE WHAT IT READS IS OF BULK AT MOST 1048576: true; the input reads as it did. -/
def layPlansUptoRow : OpenClaim := { program := "ytoomemfhcbajoaa", sum := "947f0887611594b01d48581af703a4deb67b6141b2490b0ddfb5361851b309f3", func := "oxgall/oxgalllaw09.LayPlans", spec := "layPlans", unfollowed := true, recurses := true, plainKeys := false, apart := false, narrowed := true }
def LayPlansUptoSaid : Prop := layPlansUptoRow.holds Try.pinned (OpenSpec.upto layPlansSpec)

/-- 'oxgalllaw09.LayCrowds', WHERE WHAT IT READS IS OF BULK AT MOST 1048576: true; the input reads as it did. -/
def layCrowdsUptoRow : OpenClaim := { program := "ytoomemfhcbajoaa", sum := "947f0887611594b01d48581af703a4deb67b6141b2490b0ddfb5361851b309f3", func := "oxgall/oxgalllaw09.LayCrowds", spec := "layCrowds", unfollowed := true, recurses := true, plainKeys := false, apart := false, narrowed := true }
def LayCrowdsUptoSaid : Prop := layCrowdsUptoRow.holds Try.pinned (OpenSpec.upto layCrowdsSpec)

/-- 'oxgalllaw09.LayEarlies', WHERE WHAT IT READS IS OF BULK AT MOST 1048576: true; the input reads as it did. -/
def layEarliesUptoRow : OpenClaim := { program := "ytoomemfhcbajoaa", sum := "947f0887611594b01d48581af703a4deb67b6141b2490b0ddfb5361851b309f3", func := "oxgall/oxgalllaw09.LayEarlies", spec := "layEarlies", unfollowed := true, recurses := true, plainKeys := false, apart := false, narrowed := true }
def LayEarliesUptoSaid : Prop := layEarliesUptoRow.holds Try.pinned (OpenSpec.upto layEarliesSpec)

/-- 'oxgalllaw09.LayEither', WHERE WHAT IT READS IS OF BULK AT MOST 1048576: true; the input reads as it did. -/
def layEitherUptoRow : OpenClaim := { program := "ytoomemfhcbajoaa", sum := "947f0887611594b01d48581af703a4deb67b6141b2490b0ddfb5361851b309f3", func := "oxgall/oxgalllaw09.LayEither", spec := "layEither", unfollowed := true, recurses := true, plainKeys := false, apart := false, narrowed := true }
def LayEitherUptoSaid : Prop := layEitherUptoRow.holds Try.pinned (OpenSpec.upto layEitherSpec)

/-- 'oxgalllaw09.LayTried', WHERE WHAT IT READS IS OF BULK AT MOST 1048576: true; the input reads as it did. -/
def layTriedUptoRow : OpenClaim := { program := "ytoomemfhcbajoaa", sum := "947f0887611594b01d48581af703a4deb67b6141b2490b0ddfb5361851b309f3", func := "oxgall/oxgalllaw09.LayTried", spec := "layTried", unfollowed := true, recurses := true, plainKeys := false, apart := false, narrowed := true }
def LayTriedUptoSaid : Prop := layTriedUptoRow.holds Try.pinned (OpenSpec.upto layTriedSpec)

/-- 'oxgalllaw09.LayMore', WHERE WHAT IT READS IS OF BULK AT MOST 1048576: true; the input reads as it did. -/
def layMoreUptoRow : OpenClaim := { program := "ytoomemfhcbajoaa", sum := "947f0887611594b01d48581af703a4deb67b6141b2490b0ddfb5361851b309f3", func := "oxgall/oxgalllaw09.LayMore", spec := "layMore", unfollowed := true, recurses := true, plainKeys := false, apart := false, narrowed := true }
def LayMoreUptoSaid : Prop := layMoreUptoRow.holds Try.pinned (OpenSpec.upto layMoreSpec)

/-- 'oxgalllaw09.LayTurns', WHERE WHAT IT READS IS OF BULK AT MOST 1048576: true; the input reads as it did. -/
def layTurnsUptoRow : OpenClaim := { program := "ytoomemfhcbajoaa", sum := "947f0887611594b01d48581af703a4deb67b6141b2490b0ddfb5361851b309f3", func := "oxgall/oxgalllaw09.LayTurns", spec := "layTurns", unfollowed := true, recurses := true, plainKeys := false, apart := false, narrowed := true }
def LayTurnsUptoSaid : Prop := layTurnsUptoRow.holds Try.pinned (OpenSpec.upto layTurnsSpec)

/-- 'oxgalllaw09.LayBounds', WHERE WHAT IT READS IS OF BULK AT MOST 1048576: true; the input reads as it did. -/
def layBoundsUptoRow : OpenClaim := { program := "ytoomemfhcbajoaa", sum := "947f0887611594b01d48581af703a4deb67b6141b2490b0ddfb5361851b309f3", func := "oxgall/oxgalllaw09.LayBounds", spec := "layBounds", unfollowed := true, recurses := true, plainKeys := false, apart := false, narrowed := true }
def LayBoundsUptoSaid : Prop := layBoundsUptoRow.holds Try.pinned (OpenSpec.upto layBoundsSpec)

/-- 'oxgalllaw09.LayRests', WHERE WHAT IT READS IS OF BULK AT MOST 1048576: true; the input reads as it did. -/
def layRestsUptoRow : OpenClaim := { program := "ytoomemfhcbajoaa", sum := "947f0887611594b01d48581af703a4deb67b6141b2490b0ddfb5361851b309f3", func := "oxgall/oxgalllaw09.LayRests", spec := "layRests", unfollowed := true, recurses := true, plainKeys := false, apart := false, narrowed := true }
def LayRestsUptoSaid : Prop := layRestsUptoRow.holds Try.pinned (OpenSpec.upto layRestsSpec)

/-- 'oxgalllaw09.LayLines', WHERE WHAT IT READS IS OF BULK AT MOST 1048576: true; the input reads as it did. -/
def layLinesUptoRow : OpenClaim := { program := "ytoomemfhcbajoaa", sum := "947f0887611594b01d48581af703a4deb67b6141b2490b0ddfb5361851b309f3", func := "oxgall/oxgalllaw09.LayLines", spec := "layLines", unfollowed := true, recurses := true, plainKeys := false, apart := false, narrowed := true }
def LayLinesUptoSaid : Prop := layLinesUptoRow.holds Try.pinned (OpenSpec.upto layLinesSpec)

/-- 'oxgalllaw09.LayKnown', WHERE WHAT IT READS IS OF BULK AT MOST 1048576: true; the input reads as it did. -/
def layKnownUptoRow : OpenClaim := { program := "ytoomemfhcbajoaa", sum := "947f0887611594b01d48581af703a4deb67b6141b2490b0ddfb5361851b309f3", func := "oxgall/oxgalllaw09.LayKnown", spec := "layKnown", unfollowed := true, recurses := true, plainKeys := false, apart := false, narrowed := true }
def LayKnownUptoSaid : Prop := layKnownUptoRow.holds Try.pinned (OpenSpec.upto layKnownSpec)

end Rows
end Go.Proofs.Ytoomemfhcbajoaa
