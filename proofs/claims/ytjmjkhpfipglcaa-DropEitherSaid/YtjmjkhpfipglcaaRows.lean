/-
  No cell of these rows narrows 'for every input' (looked for: loops, veiled, ifaces, maps, wideKeys, modest, calm, conditions, laid).
  DERIVED. THE GIVEN ROWS OF THIS SEAT. 12 by the template 'for every input the law returns true; each argument reads behind the call as it read before'; 0 by the template 'total and deterministic' (their statements: YtjmjkhpfipglcaaTotals.lean).
  GIVEN WITH THE SEED: the statements are not yours to turn. If you find one false, say at which input.
  Laid BY PROGRAM, IN A SANDBOX (cutbox-rows.mjs): the forced cells as the released guide's own fill.sh prints them over the translation 82130aa017526304… (all of the seat's roots in one cut). By AI agents, Wed Nov 11 2026. No macro, syntax, notation, axiom, sorry.
-/
import Derived.Test.YtjmjkhpfipglcaaChecked
import GoSem.Claim
import GoSem.ClaimJoined
import GoSem.ClaimMapViews
import Derived.JoinedTies
import Derived.KernelRfl
namespace Go.Proofs.Ytjmjkhpfipglcaa
/- THE CELL 'sum', in the pinned program and in every row, IS THE sha256 OF THE DUMP (.gsa) THAT YtjmjkhpfipglcaaProg.lean LOADS. Nothing in Lean hashes anything: it is a label: what it is worth is what the hold of that sum in a sandbox is worth. -/
noncomputable def Try.pinned : Pinned := { name := "ytjmjkhpfipglcaa", sum := "82130aa017526304997867261325c9267a8a089d860f8abd30cc958a57eca083", checked := Try.checked }
namespace Rows
def none {H : Type} : Left H := { results := [], args := [] }

/-- 'oxgalllaw01.DropBaths': WHATEVER THE INPUT: true; the input reads as it did. -/
def dropBathsSpec : ChangeSpec := { name := "dropBaths", fn := fun _ => fun
  | [d1, d2] => { results := [.lit (.bool true)], args := [d1, d2] }
  | _ => none }
def dropBathsRow : OpenClaim := { program := "ytjmjkhpfipglcaa", sum := "82130aa017526304997867261325c9267a8a089d860f8abd30cc958a57eca083", func := "oxgall/oxgalllaw01.DropBaths", spec := "dropBaths", unfollowed := true, recurses := true, plainKeys := false, apart := false }
def DropBathsSaid : Prop := dropBathsRow.holds Try.pinned (OpenSpec.ofChange dropBathsSpec)

/-- ITS FALSE NEIGHBOUR: 'it returns false'. Refute it at one input. -/
def dropBathsWrong : ChangeSpec := { name := "dropBaths", fn := fun _ => fun
  | [d1, d2] => { results := [.lit (.bool false)], args := [d1, d2] }
  | _ => none }
def DropBathsWrongFalsely : Prop := dropBathsRow.holds Try.pinned (OpenSpec.ofChange dropBathsWrong)

/-- 'oxgalllaw01.DropTouches': WHATEVER THE INPUT: true; the input reads as it did. -/
def dropTouchesSpec : ChangeSpec := { name := "dropTouches", fn := fun _ => fun
  | [d1, d2, d3] => { results := [.lit (.bool true)], args := [d1, d2, d3] }
  | _ => none }
def dropTouchesRow : OpenClaim := { program := "ytjmjkhpfipglcaa", sum := "82130aa017526304997867261325c9267a8a089d860f8abd30cc958a57eca083", func := "oxgall/oxgalllaw01.DropTouches", spec := "dropTouches", unfollowed := true, recurses := true, plainKeys := false, apart := false }
def DropTouchesSaid : Prop := dropTouchesRow.holds Try.pinned (OpenSpec.ofChange dropTouchesSpec)

/-- ITS FALSE NEIGHBOUR: 'it returns false'. Refute it at one input. -/
def dropTouchesWrong : ChangeSpec := { name := "dropTouches", fn := fun _ => fun
  | [d1, d2, d3] => { results := [.lit (.bool false)], args := [d1, d2, d3] }
  | _ => none }
def DropTouchesWrongFalsely : Prop := dropTouchesRow.holds Try.pinned (OpenSpec.ofChange dropTouchesWrong)

/-- 'oxgalllaw01.DropFirsts': WHATEVER THE INPUT: true; the input reads as it did. -/
def dropFirstsSpec : ChangeSpec := { name := "dropFirsts", fn := fun _ => fun
  | [d1, d2, d3, d4] => { results := [.lit (.bool true)], args := [d1, d2, d3, d4] }
  | _ => none }
def dropFirstsRow : OpenClaim := { program := "ytjmjkhpfipglcaa", sum := "82130aa017526304997867261325c9267a8a089d860f8abd30cc958a57eca083", func := "oxgall/oxgalllaw01.DropFirsts", spec := "dropFirsts", unfollowed := true, recurses := true, plainKeys := false, apart := false }
def DropFirstsSaid : Prop := dropFirstsRow.holds Try.pinned (OpenSpec.ofChange dropFirstsSpec)

/-- ITS FALSE NEIGHBOUR: 'it returns false'. Refute it at one input. -/
def dropFirstsWrong : ChangeSpec := { name := "dropFirsts", fn := fun _ => fun
  | [d1, d2, d3, d4] => { results := [.lit (.bool false)], args := [d1, d2, d3, d4] }
  | _ => none }
def DropFirstsWrongFalsely : Prop := dropFirstsRow.holds Try.pinned (OpenSpec.ofChange dropFirstsWrong)

/-- 'oxgalllaw01.DropWays': WHATEVER THE INPUT: true; the input reads as it did. -/
def dropWaysSpec : ChangeSpec := { name := "dropWays", fn := fun _ => fun
  | [d1, d2, d3, d4, d5] => { results := [.lit (.bool true)], args := [d1, d2, d3, d4, d5] }
  | _ => none }
def dropWaysRow : OpenClaim := { program := "ytjmjkhpfipglcaa", sum := "82130aa017526304997867261325c9267a8a089d860f8abd30cc958a57eca083", func := "oxgall/oxgalllaw01.DropWays", spec := "dropWays", unfollowed := true, recurses := true, plainKeys := false, apart := false }
def DropWaysSaid : Prop := dropWaysRow.holds Try.pinned (OpenSpec.ofChange dropWaysSpec)

/-- ITS FALSE NEIGHBOUR: 'it returns false'. Refute it at one input. -/
def dropWaysWrong : ChangeSpec := { name := "dropWays", fn := fun _ => fun
  | [d1, d2, d3, d4, d5] => { results := [.lit (.bool false)], args := [d1, d2, d3, d4, d5] }
  | _ => none }
def DropWaysWrongFalsely : Prop := dropWaysRow.holds Try.pinned (OpenSpec.ofChange dropWaysWrong)

/-- 'oxgalllaw01.DropSides': WHATEVER THE INPUT: true; the input reads as it did. -/
def dropSidesSpec : ChangeSpec := { name := "dropSides", fn := fun _ => fun
  | [d1, d2, d3, d4, d5] => { results := [.lit (.bool true)], args := [d1, d2, d3, d4, d5] }
  | _ => none }
def dropSidesRow : OpenClaim := { program := "ytjmjkhpfipglcaa", sum := "82130aa017526304997867261325c9267a8a089d860f8abd30cc958a57eca083", func := "oxgall/oxgalllaw01.DropSides", spec := "dropSides", unfollowed := true, recurses := true, plainKeys := false, apart := false }
def DropSidesSaid : Prop := dropSidesRow.holds Try.pinned (OpenSpec.ofChange dropSidesSpec)

/-- ITS FALSE NEIGHBOUR: 'it returns false'. Refute it at one input. -/
def dropSidesWrong : ChangeSpec := { name := "dropSides", fn := fun _ => fun
  | [d1, d2, d3, d4, d5] => { results := [.lit (.bool false)], args := [d1, d2, d3, d4, d5] }
  | _ => none }
def DropSidesWrongFalsely : Prop := dropSidesRow.holds Try.pinned (OpenSpec.ofChange dropSidesWrong)

/-- 'oxgalllaw01.DropTold': WHATEVER THE INPUT: true; the input reads as it did. -/
def dropToldSpec : ChangeSpec := { name := "dropTold", fn := fun _ => fun
  | [d1, d2, d3, d4] => { results := [.lit (.bool true)], args := [d1, d2, d3, d4] }
  | _ => none }
def dropToldRow : OpenClaim := { program := "ytjmjkhpfipglcaa", sum := "82130aa017526304997867261325c9267a8a089d860f8abd30cc958a57eca083", func := "oxgall/oxgalllaw01.DropTold", spec := "dropTold", unfollowed := true, recurses := true, plainKeys := false, apart := false }
def DropToldSaid : Prop := dropToldRow.holds Try.pinned (OpenSpec.ofChange dropToldSpec)

/-- ITS FALSE NEIGHBOUR: 'it returns false'. Refute it at one input. -/
def dropToldWrong : ChangeSpec := { name := "dropTold", fn := fun _ => fun
  | [d1, d2, d3, d4] => { results := [.lit (.bool false)], args := [d1, d2, d3, d4] }
  | _ => none }
def DropToldWrongFalsely : Prop := dropToldRow.holds Try.pinned (OpenSpec.ofChange dropToldWrong)

/-- 'oxgalllaw01.DropEither': WHATEVER THE INPUT: true; the input reads as it did. -/
def dropEitherSpec : ChangeSpec := { name := "dropEither", fn := fun _ => fun
  | [d1, d2, d3, d4, d5, d6] => { results := [.lit (.bool true)], args := [d1, d2, d3, d4, d5, d6] }
  | _ => none }
def dropEitherRow : OpenClaim := { program := "ytjmjkhpfipglcaa", sum := "82130aa017526304997867261325c9267a8a089d860f8abd30cc958a57eca083", func := "oxgall/oxgalllaw01.DropEither", spec := "dropEither", unfollowed := true, recurses := true, plainKeys := false, apart := false }
def DropEitherSaid : Prop := dropEitherRow.holds Try.pinned (OpenSpec.ofChange dropEitherSpec)

/-- ITS FALSE NEIGHBOUR: 'it returns false'. Refute it at one input. -/
def dropEitherWrong : ChangeSpec := { name := "dropEither", fn := fun _ => fun
  | [d1, d2, d3, d4, d5, d6] => { results := [.lit (.bool false)], args := [d1, d2, d3, d4, d5, d6] }
  | _ => none }
def DropEitherWrongFalsely : Prop := dropEitherRow.holds Try.pinned (OpenSpec.ofChange dropEitherWrong)

/-- 'oxgalllaw01.DropMore': WHATEVER THE INPUT: true; the input reads as it did. -/
def dropMoreSpec : ChangeSpec := { name := "dropMore", fn := fun _ => fun
  | [d1, d2, d3, d4, d5] => { results := [.lit (.bool true)], args := [d1, d2, d3, d4, d5] }
  | _ => none }
def dropMoreRow : OpenClaim := { program := "ytjmjkhpfipglcaa", sum := "82130aa017526304997867261325c9267a8a089d860f8abd30cc958a57eca083", func := "oxgall/oxgalllaw01.DropMore", spec := "dropMore", unfollowed := true, recurses := true, plainKeys := false, apart := false }
def DropMoreSaid : Prop := dropMoreRow.holds Try.pinned (OpenSpec.ofChange dropMoreSpec)

/-- ITS FALSE NEIGHBOUR: 'it returns false'. Refute it at one input. -/
def dropMoreWrong : ChangeSpec := { name := "dropMore", fn := fun _ => fun
  | [d1, d2, d3, d4, d5] => { results := [.lit (.bool false)], args := [d1, d2, d3, d4, d5] }
  | _ => none }
def DropMoreWrongFalsely : Prop := dropMoreRow.holds Try.pinned (OpenSpec.ofChange dropMoreWrong)

/-- 'oxgalllaw01.DropRoom': WHATEVER THE INPUT: true; the input reads as it did. -/
def dropRoomSpec : ChangeSpec := { name := "dropRoom", fn := fun _ => fun
  | [d1, d2, d3] => { results := [.lit (.bool true)], args := [d1, d2, d3] }
  | _ => none }
def dropRoomRow : OpenClaim := { program := "ytjmjkhpfipglcaa", sum := "82130aa017526304997867261325c9267a8a089d860f8abd30cc958a57eca083", func := "oxgall/oxgalllaw01.DropRoom", spec := "dropRoom", unfollowed := true, recurses := true, plainKeys := false, apart := false }
def DropRoomSaid : Prop := dropRoomRow.holds Try.pinned (OpenSpec.ofChange dropRoomSpec)

/-- ITS FALSE NEIGHBOUR: 'it returns false'. Refute it at one input. -/
def dropRoomWrong : ChangeSpec := { name := "dropRoom", fn := fun _ => fun
  | [d1, d2, d3] => { results := [.lit (.bool false)], args := [d1, d2, d3] }
  | _ => none }
def DropRoomWrongFalsely : Prop := dropRoomRow.holds Try.pinned (OpenSpec.ofChange dropRoomWrong)

/-- 'oxgalllaw01.DropTurned': WHATEVER THE INPUT: true; the input reads as it did. -/
def dropTurnedSpec : ChangeSpec := { name := "dropTurned", fn := fun _ => fun
  | [d1, d2, d3] => { results := [.lit (.bool true)], args := [d1, d2, d3] }
  | _ => none }
def dropTurnedRow : OpenClaim := { program := "ytjmjkhpfipglcaa", sum := "82130aa017526304997867261325c9267a8a089d860f8abd30cc958a57eca083", func := "oxgall/oxgalllaw01.DropTurned", spec := "dropTurned", unfollowed := true, recurses := true, plainKeys := false, apart := false }
def DropTurnedSaid : Prop := dropTurnedRow.holds Try.pinned (OpenSpec.ofChange dropTurnedSpec)

/-- ITS FALSE NEIGHBOUR: 'it returns false'. Refute it at one input. -/
def dropTurnedWrong : ChangeSpec := { name := "dropTurned", fn := fun _ => fun
  | [d1, d2, d3] => { results := [.lit (.bool false)], args := [d1, d2, d3] }
  | _ => none }
def DropTurnedWrongFalsely : Prop := dropTurnedRow.holds Try.pinned (OpenSpec.ofChange dropTurnedWrong)

/-- 'oxgalllaw01.DropJoined': WHATEVER THE INPUT: true; the input reads as it did. -/
def dropJoinedSpec : ChangeSpec := { name := "dropJoined", fn := fun _ => fun
  | [d1, d2] => { results := [.lit (.bool true)], args := [d1, d2] }
  | _ => none }
def dropJoinedRow : OpenClaim := { program := "ytjmjkhpfipglcaa", sum := "82130aa017526304997867261325c9267a8a089d860f8abd30cc958a57eca083", func := "oxgall/oxgalllaw01.DropJoined", spec := "dropJoined", unfollowed := true, recurses := true, plainKeys := false, apart := false }
def DropJoinedSaid : Prop := dropJoinedRow.holds Try.pinned (OpenSpec.ofChange dropJoinedSpec)

/-- ITS FALSE NEIGHBOUR: 'it returns false'. Refute it at one input. -/
def dropJoinedWrong : ChangeSpec := { name := "dropJoined", fn := fun _ => fun
  | [d1, d2] => { results := [.lit (.bool false)], args := [d1, d2] }
  | _ => none }
def DropJoinedWrongFalsely : Prop := dropJoinedRow.holds Try.pinned (OpenSpec.ofChange dropJoinedWrong)

/-- 'oxgalllaw01.DropKnown': WHATEVER THE INPUT: true; the input reads as it did. -/
def dropKnownSpec : ChangeSpec := { name := "dropKnown", fn := fun _ => fun
  | [] => { results := [.lit (.bool true)], args := [] }
  | _ => none }
def dropKnownRow : OpenClaim := { program := "ytjmjkhpfipglcaa", sum := "82130aa017526304997867261325c9267a8a089d860f8abd30cc958a57eca083", func := "oxgall/oxgalllaw01.DropKnown", spec := "dropKnown", unfollowed := true, recurses := true, plainKeys := false, apart := false }
def DropKnownSaid : Prop := dropKnownRow.holds Try.pinned (OpenSpec.ofChange dropKnownSpec)

/-- ITS FALSE NEIGHBOUR: 'it returns false'. Refute it at one input. -/
def dropKnownWrong : ChangeSpec := { name := "dropKnown", fn := fun _ => fun
  | [] => { results := [.lit (.bool false)], args := [] }
  | _ => none }
def DropKnownWrongFalsely : Prop := dropKnownRow.holds Try.pinned (OpenSpec.ofChange dropKnownWrong)

/- THE SECOND FORM. 'bulk': how many values and letters a reading holds, each counted each time it is reached (what is shared counts as often as it is met; a slice's spare places count too). A statement '..UptoSaid' is the law's where the arguments, and the package variables that the reading takes, are together of bulk at most 1048576: NARROWER than '..Said'. Prove '..Said' where nothing that the law and all that it calls make is longer than what came in: it says more and counts as full. Else prove '..UptoSaid'. A law counts once. -/
mutual
def uptoBulk {H : Type} : DataW H → Nat
  | .lit (.string bytes) => bytes.length + 1
  | .lit _ => 1
  | .nil => 1
  | .ptr d => uptoBulk d + 1
  | .slice elems spare => uptoBulkAll elems + uptoBulkAll spare + 1
  | .agg parts => uptoBulkAll parts + 1
  | .iface _ d => uptoBulk d + 1
  | .map entries => uptoBulkEntries entries + 1
  | .held _ => 1
def uptoBulkAll {H : Type} : List (DataW H) → Nat
  | [] => 0
  | d :: r => uptoBulk d + uptoBulkAll r
def uptoBulkEntries {H : Type} : List (Lit × DataW H) → Nat
  | [] => 0
  | x :: r => uptoBulkEntry x + uptoBulkEntries r
def uptoBulkEntry {H : Type} : Lit × DataW H → Nat
  | (.string bytes, d) => bytes.length + uptoBulk d + 1
  | (_, d) => uptoBulk d + 1
 end
def uptoSmall : (H : Type) → List (DataW H) → Bool := fun _ ds => decide (uptoBulkAll ds ≤ 1048576)
def OpenSpec.upto (s : _root_.Go.ChangeSpec) : _root_.Go.OpenSpec := { _root_.Go.OpenSpec.ofChange s with cond := some uptoSmall }

/-- 'oxgalllaw01.DropBaths', WHERE WHAT IT READS IS OF BULK AT MOST 1048576: true; the input reads as it did. -/
def dropBathsUptoRow : OpenClaim := { program := "ytjmjkhpfipglcaa", sum := "82130aa017526304997867261325c9267a8a089d860f8abd30cc958a57eca083", func := "oxgall/oxgalllaw01.DropBaths", spec := "dropBaths", unfollowed := true, recurses := true, plainKeys := false, apart := false, narrowed := true }
def DropBathsUptoSaid : Prop := dropBathsUptoRow.holds Try.pinned (OpenSpec.upto dropBathsSpec)

/-- 'oxgalllaw01.DropTouches', WHERE WHAT IT READS IS OF BULK AT MOST 1048576: true; the input reads as it did. -/
def dropTouchesUptoRow : OpenClaim := { program := "ytjmjkhpfipglcaa", sum := "82130aa017526304997867261325c9267a8a089d860f8abd30cc958a57eca083", func := "oxgall/oxgalllaw01.DropTouches", spec := "dropTouches", unfollowed := true, recurses := true, plainKeys := false, apart := false, narrowed := true }
def DropTouchesUptoSaid : Prop := dropTouchesUptoRow.holds Try.pinned (OpenSpec.upto dropTouchesSpec)

/-- 'oxgalllaw01.DropFirsts', WHERE WHAT IT READS IS OF BULK AT MOST 1048576: true; the input reads as it did. -/
def dropFirstsUptoRow : OpenClaim := { program := "ytjmjkhpfipglcaa", sum := "82130aa017526304997867261325c9267a8a089d860f8abd30cc958a57eca083", func := "oxgall/oxgalllaw01.DropFirsts", spec := "dropFirsts", unfollowed := true, recurses := true, plainKeys := false, apart := false, narrowed := true }
def DropFirstsUptoSaid : Prop := dropFirstsUptoRow.holds Try.pinned (OpenSpec.upto dropFirstsSpec)

/-- 'oxgalllaw01.DropWays', WHERE WHAT IT READS IS OF BULK AT MOST 1048576: true; the input reads as it did. -/
def dropWaysUptoRow : OpenClaim := { program := "ytjmjkhpfipglcaa", sum := "82130aa017526304997867261325c9267a8a089d860f8abd30cc958a57eca083", func := "oxgall/oxgalllaw01.DropWays", spec := "dropWays", unfollowed := true, recurses := true, plainKeys := false, apart := false, narrowed := true }
def DropWaysUptoSaid : Prop := dropWaysUptoRow.holds Try.pinned (OpenSpec.upto dropWaysSpec)

/-- 'oxgalllaw01.DropSides', WHERE WHAT IT READS IS OF BULK AT MOST 1048576: true; the input reads as it did. -/
def dropSidesUptoRow : OpenClaim := { program := "ytjmjkhpfipglcaa", sum := "82130aa017526304997867261325c9267a8a089d860f8abd30cc958a57eca083", func := "oxgall/oxgalllaw01.DropSides", spec := "dropSides", unfollowed := true, recurses := true, plainKeys := false, apart := false, narrowed := true }
def DropSidesUptoSaid : Prop := dropSidesUptoRow.holds Try.pinned (OpenSpec.upto dropSidesSpec)

/-- 'oxgalllaw01.DropTold', WHERE WHAT IT READS IS OF BULK AT MOST 1048576: true; the input reads as it did. -/
def dropToldUptoRow : OpenClaim := { program := "ytjmjkhpfipglcaa", sum := "82130aa017526304997867261325c9267a8a089d860f8abd30cc958a57eca083", func := "oxgall/oxgalllaw01.DropTold", spec := "dropTold", unfollowed := true, recurses := true, plainKeys := false, apart := false, narrowed := true }
def DropToldUptoSaid : Prop := dropToldUptoRow.holds Try.pinned (OpenSpec.upto dropToldSpec)

/-- 'oxgalllaw01.DropEither', WHERE WHAT IT READS IS OF BULK AT MOST 1048576: true; the input reads as it did. -/
def dropEitherUptoRow : OpenClaim := { program := "ytjmjkhpfipglcaa", sum := "82130aa017526304997867261325c9267a8a089d860f8abd30cc958a57eca083", func := "oxgall/oxgalllaw01.DropEither", spec := "dropEither", unfollowed := true, recurses := true, plainKeys := false, apart := false, narrowed := true }
def DropEitherUptoSaid : Prop := dropEitherUptoRow.holds Try.pinned (OpenSpec.upto dropEitherSpec)

/-- 'oxgalllaw01.DropMore', WHERE WHAT IT READS IS OF BULK AT MOST 1048576: true; the input reads as it did. -/
def dropMoreUptoRow : OpenClaim := { program := "ytjmjkhpfipglcaa", sum := "82130aa017526304997867261325c9267a8a089d860f8abd30cc958a57eca083", func := "oxgall/oxgalllaw01.DropMore", spec := "dropMore", unfollowed := true, recurses := true, plainKeys := false, apart := false, narrowed := true }
def DropMoreUptoSaid : Prop := dropMoreUptoRow.holds Try.pinned (OpenSpec.upto dropMoreSpec)

/-- 'oxgalllaw01.DropRoom', WHERE WHAT IT READS IS OF BULK AT MOST 1048576: true; the input reads as it did. -/
def dropRoomUptoRow : OpenClaim := { program := "ytjmjkhpfipglcaa", sum := "82130aa017526304997867261325c9267a8a089d860f8abd30cc958a57eca083", func := "oxgall/oxgalllaw01.DropRoom", spec := "dropRoom", unfollowed := true, recurses := true, plainKeys := false, apart := false, narrowed := true }
def DropRoomUptoSaid : Prop := dropRoomUptoRow.holds Try.pinned (OpenSpec.upto dropRoomSpec)

/-- 'oxgalllaw01.DropTurned', WHERE WHAT IT READS IS OF BULK AT MOST 1048576: true; the input reads as it did. -/
def dropTurnedUptoRow : OpenClaim := { program := "ytjmjkhpfipglcaa", sum := "82130aa017526304997867261325c9267a8a089d860f8abd30cc958a57eca083", func := "oxgall/oxgalllaw01.DropTurned", spec := "dropTurned", unfollowed := true, recurses := true, plainKeys := false, apart := false, narrowed := true }
def DropTurnedUptoSaid : Prop := dropTurnedUptoRow.holds Try.pinned (OpenSpec.upto dropTurnedSpec)

/-- 'oxgalllaw01.DropJoined', WHERE WHAT IT READS IS OF BULK AT MOST 1048576: true; the input reads as it did. -/
def dropJoinedUptoRow : OpenClaim := { program := "ytjmjkhpfipglcaa", sum := "82130aa017526304997867261325c9267a8a089d860f8abd30cc958a57eca083", func := "oxgall/oxgalllaw01.DropJoined", spec := "dropJoined", unfollowed := true, recurses := true, plainKeys := false, apart := false, narrowed := true }
def DropJoinedUptoSaid : Prop := dropJoinedUptoRow.holds Try.pinned (OpenSpec.upto dropJoinedSpec)

/-- 'oxgalllaw01.DropKnown', WHERE WHAT IT READS IS OF BULK AT MOST 1048576: true; the input reads as it did. -/
def dropKnownUptoRow : OpenClaim := { program := "ytjmjkhpfipglcaa", sum := "82130aa017526304997867261325c9267a8a089d860f8abd30cc958a57eca083", func := "oxgall/oxgalllaw01.DropKnown", spec := "dropKnown", unfollowed := true, recurses := true, plainKeys := false, apart := false, narrowed := true }
def DropKnownUptoSaid : Prop := dropKnownUptoRow.holds Try.pinned (OpenSpec.upto dropKnownSpec)

end Rows
end Go.Proofs.Ytjmjkhpfipglcaa
