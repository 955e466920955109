/-
  NARROWER THAN 'FOR EVERY INPUT', by the rows' own cells (each row's printed sentence says how): GallLists: laid · GallBlocks: laid · GallPlaces: laid · GallEither: laid · GallWithin: laid · GallMore: laid · GallCounted: laid · GallStronger: laid · GallTurned: laid · GallSwaps: laid · GallKnown: laid.
  DERIVED. THE GIVEN ROWS OF THIS SEAT. 11 by the template 'for every input the law returns true; each argument reads behind the call as it read before'; 0 by the template 'total and deterministic' (their statements: YtgphpjdchnfjlaaDoorTotals.lean).
  GIVEN WITH THE SEED: the statements are not yours to turn. If you find one false, say at which input.
  Laid BY PROGRAM, IN A SANDBOX (cutbox-rows.mjs): the forced cells as the released guide's own fill.sh prints them over the translation 48b1f12d285183a5… (all of the seat's roots in one cut). By AI agents, Wed Nov 11 2026. No macro, syntax, notation, axiom, sorry.
-/
import Derived.Test.YtgphpjdchnfjlaaDoorChecked
import GoSem.Claim
import GoSem.ClaimJoined
import GoSem.ClaimMapViews
import Derived.JoinedTies
import Derived.KernelRfl
namespace Go.Proofs.YtgphpjdchnfjlaaDoor
/- THE CELL 'sum', in the pinned program and in every row, IS THE sha256 OF THE DUMP (.gsa) THAT YtgphpjdchnfjlaaDoorProg.lean LOADS. Nothing in Lean hashes anything: it is a label: what it is worth is what the hold of that sum in a sandbox is worth. -/
noncomputable def Tryd.pinned : Pinned := { name := "ytgphpjdchnfjlaadoor", sum := "48b1f12d285183a5fa349a9e31c77ec8806f7c70fb39797f6319bb28ca176264", checked := Tryd.checked }
namespace Rows
def none {H : Type} : Left H := { results := [], args := [] }

/- WHAT THE LISTED PACKAGE-LEVEL VARIABLES READ AS WHEN THE CALL BEGINS. Each datum BY PROGRAM (the guide's laid-datum.mjs) off the statement by which the dump's own 'gosem.cut.vars' lays the variable. In a bare row this is a premise. The card (YtgphpjdchnfjlaaDoorCards.lean) ties it to the program's text. -/
def laid_math_bits_deBruijn32tab {H : Type} : DataW H := .agg [.lit (.int .u8 0), .lit (.int .u8 1), .lit (.int .u8 28), .lit (.int .u8 2), .lit (.int .u8 29), .lit (.int .u8 14), .lit (.int .u8 24), .lit (.int .u8 3), .lit (.int .u8 30), .lit (.int .u8 22), .lit (.int .u8 20), .lit (.int .u8 15), .lit (.int .u8 25), .lit (.int .u8 17), .lit (.int .u8 4), .lit (.int .u8 8), .lit (.int .u8 31), .lit (.int .u8 27), .lit (.int .u8 13), .lit (.int .u8 23), .lit (.int .u8 21), .lit (.int .u8 19), .lit (.int .u8 16), .lit (.int .u8 7), .lit (.int .u8 26), .lit (.int .u8 12), .lit (.int .u8 18), .lit (.int .u8 6), .lit (.int .u8 11), .lit (.int .u8 5), .lit (.int .u8 10), .lit (.int .u8 9)]
def laid_math_bits_deBruijn64tab {H : Type} : DataW H := .agg [.lit (.int .u8 0), .lit (.int .u8 1), .lit (.int .u8 56), .lit (.int .u8 2), .lit (.int .u8 57), .lit (.int .u8 49), .lit (.int .u8 28), .lit (.int .u8 3), .lit (.int .u8 61), .lit (.int .u8 58), .lit (.int .u8 42), .lit (.int .u8 50), .lit (.int .u8 38), .lit (.int .u8 29), .lit (.int .u8 17), .lit (.int .u8 4), .lit (.int .u8 62), .lit (.int .u8 47), .lit (.int .u8 59), .lit (.int .u8 36), .lit (.int .u8 45), .lit (.int .u8 43), .lit (.int .u8 51), .lit (.int .u8 22), .lit (.int .u8 53), .lit (.int .u8 39), .lit (.int .u8 33), .lit (.int .u8 30), .lit (.int .u8 24), .lit (.int .u8 18), .lit (.int .u8 12), .lit (.int .u8 5), .lit (.int .u8 63), .lit (.int .u8 55), .lit (.int .u8 48), .lit (.int .u8 27), .lit (.int .u8 60), .lit (.int .u8 41), .lit (.int .u8 37), .lit (.int .u8 16), .lit (.int .u8 46), .lit (.int .u8 35), .lit (.int .u8 44), .lit (.int .u8 21), .lit (.int .u8 52), .lit (.int .u8 32), .lit (.int .u8 23), .lit (.int .u8 11), .lit (.int .u8 54), .lit (.int .u8 26), .lit (.int .u8 40), .lit (.int .u8 15), .lit (.int .u8 34), .lit (.int .u8 20), .lit (.int .u8 31), .lit (.int .u8 10), .lit (.int .u8 25), .lit (.int .u8 14), .lit (.int .u8 19), .lit (.int .u8 9), .lit (.int .u8 13), .lit (.int .u8 8), .lit (.int .u8 7), .lit (.int .u8 6)]

/-- 'oxgalllaw05.GallLists': WHATEVER THE INPUT: true; the input reads as it did. -/
def gallListsSpec : ChangeSpec := { name := "gallLists", fn := fun _ => fun
  | [d1, d2, d3] => { results := [.lit (.bool true)], args := [d1, d2, d3] }
  | _ => none }
def gallListsRow : OpenClaim := { program := "ytgphpjdchnfjlaadoor", sum := "48b1f12d285183a5fa349a9e31c77ec8806f7c70fb39797f6319bb28ca176264", func := "oxgall/oxgalllaw05.GallLists", spec := "gallLists", unfollowed := true, recurses := true, named := ["math/bits.deBruijn32tab", "math/bits.deBruijn64tab"], apart := false, laid := [("math/bits.deBruijn32tab", laid_math_bits_deBruijn32tab), ("math/bits.deBruijn64tab", laid_math_bits_deBruijn64tab)] }
def GallListsSaid : Prop := gallListsRow.holds Tryd.pinned (OpenSpec.ofChange gallListsSpec)

/-- ITS FALSE NEIGHBOUR: 'it returns false'. Refute it at one input. -/
def gallListsWrong : ChangeSpec := { name := "gallLists", fn := fun _ => fun
  | [d1, d2, d3] => { results := [.lit (.bool false)], args := [d1, d2, d3] }
  | _ => none }
def GallListsWrongFalsely : Prop := gallListsRow.holds Tryd.pinned (OpenSpec.ofChange gallListsWrong)

/-- 'oxgalllaw05.GallBlocks': WHATEVER THE INPUT: true; the input reads as it did. -/
def gallBlocksSpec : ChangeSpec := { name := "gallBlocks", fn := fun _ => fun
  | [d1, d2] => { results := [.lit (.bool true)], args := [d1, d2] }
  | _ => none }
def gallBlocksRow : OpenClaim := { program := "ytgphpjdchnfjlaadoor", sum := "48b1f12d285183a5fa349a9e31c77ec8806f7c70fb39797f6319bb28ca176264", func := "oxgall/oxgalllaw05.GallBlocks", spec := "gallBlocks", unfollowed := true, recurses := true, named := ["math/bits.deBruijn32tab", "math/bits.deBruijn64tab"], apart := false, laid := [("math/bits.deBruijn32tab", laid_math_bits_deBruijn32tab), ("math/bits.deBruijn64tab", laid_math_bits_deBruijn64tab)] }
def GallBlocksSaid : Prop := gallBlocksRow.holds Tryd.pinned (OpenSpec.ofChange gallBlocksSpec)

/-- ITS FALSE NEIGHBOUR: 'it returns false'. Refute it at one input. -/
def gallBlocksWrong : ChangeSpec := { name := "gallBlocks", fn := fun _ => fun
  | [d1, d2] => { results := [.lit (.bool false)], args := [d1, d2] }
  | _ => none }
def GallBlocksWrongFalsely : Prop := gallBlocksRow.holds Tryd.pinned (OpenSpec.ofChange gallBlocksWrong)

/-- 'oxgalllaw05.GallPlaces': WHATEVER THE INPUT: true; the input reads as it did. -/
def gallPlacesSpec : ChangeSpec := { name := "gallPlaces", fn := fun _ => fun
  | [d1, d2, d3] => { results := [.lit (.bool true)], args := [d1, d2, d3] }
  | _ => none }
def gallPlacesRow : OpenClaim := { program := "ytgphpjdchnfjlaadoor", sum := "48b1f12d285183a5fa349a9e31c77ec8806f7c70fb39797f6319bb28ca176264", func := "oxgall/oxgalllaw05.GallPlaces", spec := "gallPlaces", unfollowed := true, recurses := true, named := ["math/bits.deBruijn32tab", "math/bits.deBruijn64tab"], apart := false, laid := [("math/bits.deBruijn32tab", laid_math_bits_deBruijn32tab), ("math/bits.deBruijn64tab", laid_math_bits_deBruijn64tab)] }
def GallPlacesSaid : Prop := gallPlacesRow.holds Tryd.pinned (OpenSpec.ofChange gallPlacesSpec)

/-- ITS FALSE NEIGHBOUR: 'it returns false'. Refute it at one input. -/
def gallPlacesWrong : ChangeSpec := { name := "gallPlaces", fn := fun _ => fun
  | [d1, d2, d3] => { results := [.lit (.bool false)], args := [d1, d2, d3] }
  | _ => none }
def GallPlacesWrongFalsely : Prop := gallPlacesRow.holds Tryd.pinned (OpenSpec.ofChange gallPlacesWrong)

/-- 'oxgalllaw05.GallEither': WHATEVER THE INPUT: true; the input reads as it did. -/
def gallEitherSpec : ChangeSpec := { name := "gallEither", fn := fun _ => fun
  | [d1, d2, d3] => { results := [.lit (.bool true)], args := [d1, d2, d3] }
  | _ => none }
def gallEitherRow : OpenClaim := { program := "ytgphpjdchnfjlaadoor", sum := "48b1f12d285183a5fa349a9e31c77ec8806f7c70fb39797f6319bb28ca176264", func := "oxgall/oxgalllaw05.GallEither", spec := "gallEither", unfollowed := true, recurses := true, named := ["math/bits.deBruijn32tab", "math/bits.deBruijn64tab"], apart := false, laid := [("math/bits.deBruijn32tab", laid_math_bits_deBruijn32tab), ("math/bits.deBruijn64tab", laid_math_bits_deBruijn64tab)] }
def GallEitherSaid : Prop := gallEitherRow.holds Tryd.pinned (OpenSpec.ofChange gallEitherSpec)

/-- ITS FALSE NEIGHBOUR: 'it returns false'. Refute it at one input. -/
def gallEitherWrong : ChangeSpec := { name := "gallEither", fn := fun _ => fun
  | [d1, d2, d3] => { results := [.lit (.bool false)], args := [d1, d2, d3] }
  | _ => none }
def GallEitherWrongFalsely : Prop := gallEitherRow.holds Tryd.pinned (OpenSpec.ofChange gallEitherWrong)

/-- 'oxgalllaw05.GallWithin': WHATEVER THE INPUT: true; the input reads as it did. -/
def gallWithinSpec : ChangeSpec := { name := "gallWithin", fn := fun _ => fun
  | [d1, d2, d3] => { results := [.lit (.bool true)], args := [d1, d2, d3] }
  | _ => none }
def gallWithinRow : OpenClaim := { program := "ytgphpjdchnfjlaadoor", sum := "48b1f12d285183a5fa349a9e31c77ec8806f7c70fb39797f6319bb28ca176264", func := "oxgall/oxgalllaw05.GallWithin", spec := "gallWithin", unfollowed := true, recurses := true, named := ["math/bits.deBruijn32tab", "math/bits.deBruijn64tab"], apart := false, laid := [("math/bits.deBruijn32tab", laid_math_bits_deBruijn32tab), ("math/bits.deBruijn64tab", laid_math_bits_deBruijn64tab)] }
def GallWithinSaid : Prop := gallWithinRow.holds Tryd.pinned (OpenSpec.ofChange gallWithinSpec)

/-- ITS FALSE NEIGHBOUR: 'it returns false'. Refute it at one input. -/
def gallWithinWrong : ChangeSpec := { name := "gallWithin", fn := fun _ => fun
  | [d1, d2, d3] => { results := [.lit (.bool false)], args := [d1, d2, d3] }
  | _ => none }
def GallWithinWrongFalsely : Prop := gallWithinRow.holds Tryd.pinned (OpenSpec.ofChange gallWithinWrong)

/-- 'oxgalllaw05.GallMore': WHATEVER THE INPUT: true; the input reads as it did. -/
def gallMoreSpec : ChangeSpec := { name := "gallMore", fn := fun _ => fun
  | [d1, d2, d3, d4] => { results := [.lit (.bool true)], args := [d1, d2, d3, d4] }
  | _ => none }
def gallMoreRow : OpenClaim := { program := "ytgphpjdchnfjlaadoor", sum := "48b1f12d285183a5fa349a9e31c77ec8806f7c70fb39797f6319bb28ca176264", func := "oxgall/oxgalllaw05.GallMore", spec := "gallMore", unfollowed := true, recurses := true, named := ["math/bits.deBruijn32tab", "math/bits.deBruijn64tab"], apart := false, laid := [("math/bits.deBruijn32tab", laid_math_bits_deBruijn32tab), ("math/bits.deBruijn64tab", laid_math_bits_deBruijn64tab)] }
def GallMoreSaid : Prop := gallMoreRow.holds Tryd.pinned (OpenSpec.ofChange gallMoreSpec)

/-- ITS FALSE NEIGHBOUR: 'it returns false'. Refute it at one input. -/
def gallMoreWrong : ChangeSpec := { name := "gallMore", fn := fun _ => fun
  | [d1, d2, d3, d4] => { results := [.lit (.bool false)], args := [d1, d2, d3, d4] }
  | _ => none }
def GallMoreWrongFalsely : Prop := gallMoreRow.holds Tryd.pinned (OpenSpec.ofChange gallMoreWrong)

/-- 'oxgalllaw05.GallCounted': WHATEVER THE INPUT: true; the input reads as it did. -/
def gallCountedSpec : ChangeSpec := { name := "gallCounted", fn := fun _ => fun
  | [d1, d2] => { results := [.lit (.bool true)], args := [d1, d2] }
  | _ => none }
def gallCountedRow : OpenClaim := { program := "ytgphpjdchnfjlaadoor", sum := "48b1f12d285183a5fa349a9e31c77ec8806f7c70fb39797f6319bb28ca176264", func := "oxgall/oxgalllaw05.GallCounted", spec := "gallCounted", unfollowed := true, recurses := true, named := ["math/bits.deBruijn32tab", "math/bits.deBruijn64tab"], apart := false, laid := [("math/bits.deBruijn32tab", laid_math_bits_deBruijn32tab), ("math/bits.deBruijn64tab", laid_math_bits_deBruijn64tab)] }
def GallCountedSaid : Prop := gallCountedRow.holds Tryd.pinned (OpenSpec.ofChange gallCountedSpec)

/-- ITS FALSE NEIGHBOUR: 'it returns false'. Refute it at one input. -/
def gallCountedWrong : ChangeSpec := { name := "gallCounted", fn := fun _ => fun
  | [d1, d2] => { results := [.lit (.bool false)], args := [d1, d2] }
  | _ => none }
def GallCountedWrongFalsely : Prop := gallCountedRow.holds Tryd.pinned (OpenSpec.ofChange gallCountedWrong)

/-- 'oxgalllaw05.GallStronger': WHATEVER THE INPUT: true; the input reads as it did. -/
def gallStrongerSpec : ChangeSpec := { name := "gallStronger", fn := fun _ => fun
  | [d1, d2, d3, d4, d5] => { results := [.lit (.bool true)], args := [d1, d2, d3, d4, d5] }
  | _ => none }
def gallStrongerRow : OpenClaim := { program := "ytgphpjdchnfjlaadoor", sum := "48b1f12d285183a5fa349a9e31c77ec8806f7c70fb39797f6319bb28ca176264", func := "oxgall/oxgalllaw05.GallStronger", spec := "gallStronger", unfollowed := true, recurses := true, named := ["math/bits.deBruijn32tab", "math/bits.deBruijn64tab"], apart := false, laid := [("math/bits.deBruijn32tab", laid_math_bits_deBruijn32tab), ("math/bits.deBruijn64tab", laid_math_bits_deBruijn64tab)] }
def GallStrongerSaid : Prop := gallStrongerRow.holds Tryd.pinned (OpenSpec.ofChange gallStrongerSpec)

/-- ITS FALSE NEIGHBOUR: 'it returns false'. Refute it at one input. -/
def gallStrongerWrong : ChangeSpec := { name := "gallStronger", fn := fun _ => fun
  | [d1, d2, d3, d4, d5] => { results := [.lit (.bool false)], args := [d1, d2, d3, d4, d5] }
  | _ => none }
def GallStrongerWrongFalsely : Prop := gallStrongerRow.holds Tryd.pinned (OpenSpec.ofChange gallStrongerWrong)

/-- 'oxgalllaw05.GallTurned': WHATEVER THE INPUT: true; the input reads as it did. -/
def gallTurnedSpec : ChangeSpec := { name := "gallTurned", fn := fun _ => fun
  | [d1, d2, d3] => { results := [.lit (.bool true)], args := [d1, d2, d3] }
  | _ => none }
def gallTurnedRow : OpenClaim := { program := "ytgphpjdchnfjlaadoor", sum := "48b1f12d285183a5fa349a9e31c77ec8806f7c70fb39797f6319bb28ca176264", func := "oxgall/oxgalllaw05.GallTurned", spec := "gallTurned", unfollowed := true, recurses := true, named := ["math/bits.deBruijn32tab", "math/bits.deBruijn64tab"], apart := false, laid := [("math/bits.deBruijn32tab", laid_math_bits_deBruijn32tab), ("math/bits.deBruijn64tab", laid_math_bits_deBruijn64tab)] }
def GallTurnedSaid : Prop := gallTurnedRow.holds Tryd.pinned (OpenSpec.ofChange gallTurnedSpec)

/-- ITS FALSE NEIGHBOUR: 'it returns false'. Refute it at one input. -/
def gallTurnedWrong : ChangeSpec := { name := "gallTurned", fn := fun _ => fun
  | [d1, d2, d3] => { results := [.lit (.bool false)], args := [d1, d2, d3] }
  | _ => none }
def GallTurnedWrongFalsely : Prop := gallTurnedRow.holds Tryd.pinned (OpenSpec.ofChange gallTurnedWrong)

/-- 'oxgalllaw05.GallSwaps': WHATEVER THE INPUT: true; the input reads as it did. -/
def gallSwapsSpec : ChangeSpec := { name := "gallSwaps", fn := fun _ => fun
  | [d1, d2, d3] => { results := [.lit (.bool true)], args := [d1, d2, d3] }
  | _ => none }
def gallSwapsRow : OpenClaim := { program := "ytgphpjdchnfjlaadoor", sum := "48b1f12d285183a5fa349a9e31c77ec8806f7c70fb39797f6319bb28ca176264", func := "oxgall/oxgalllaw05.GallSwaps", spec := "gallSwaps", unfollowed := true, recurses := true, named := ["math/bits.deBruijn32tab", "math/bits.deBruijn64tab"], apart := false, laid := [("math/bits.deBruijn32tab", laid_math_bits_deBruijn32tab), ("math/bits.deBruijn64tab", laid_math_bits_deBruijn64tab)] }
def GallSwapsSaid : Prop := gallSwapsRow.holds Tryd.pinned (OpenSpec.ofChange gallSwapsSpec)

/-- ITS FALSE NEIGHBOUR: 'it returns false'. Refute it at one input. -/
def gallSwapsWrong : ChangeSpec := { name := "gallSwaps", fn := fun _ => fun
  | [d1, d2, d3] => { results := [.lit (.bool false)], args := [d1, d2, d3] }
  | _ => none }
def GallSwapsWrongFalsely : Prop := gallSwapsRow.holds Tryd.pinned (OpenSpec.ofChange gallSwapsWrong)

/-- 'oxgalllaw05.GallKnown': WHATEVER THE INPUT: true; the input reads as it did. -/
def gallKnownSpec : ChangeSpec := { name := "gallKnown", fn := fun _ => fun
  | [] => { results := [.lit (.bool true)], args := [] }
  | _ => none }
def gallKnownRow : OpenClaim := { program := "ytgphpjdchnfjlaadoor", sum := "48b1f12d285183a5fa349a9e31c77ec8806f7c70fb39797f6319bb28ca176264", func := "oxgall/oxgalllaw05.GallKnown", spec := "gallKnown", unfollowed := true, recurses := true, named := ["math/bits.deBruijn32tab", "math/bits.deBruijn64tab"], apart := false, laid := [("math/bits.deBruijn32tab", laid_math_bits_deBruijn32tab), ("math/bits.deBruijn64tab", laid_math_bits_deBruijn64tab)] }
def GallKnownSaid : Prop := gallKnownRow.holds Tryd.pinned (OpenSpec.ofChange gallKnownSpec)

/-- ITS FALSE NEIGHBOUR: 'it returns false'. Refute it at one input. -/
def gallKnownWrong : ChangeSpec := { name := "gallKnown", fn := fun _ => fun
  | [] => { results := [.lit (.bool false)], args := [] }
  | _ => none }
def GallKnownWrongFalsely : Prop := gallKnownRow.holds Tryd.pinned (OpenSpec.ofChange gallKnownWrong)

/- THE SECOND FORM. 'bulk': how many values and letters a reading holds, each counted each time it is reached (what is shared counts as often as it is met; a slice's spare places count too). A statement '..UptoSaid' is the law's where the arguments, and the package variables that the reading takes, are together of bulk at most 1048576: NARROWER than '..Said'. Prove '..Said' where nothing that the law and all that it calls make is longer than what came in: it says more and counts as full. Else prove '..UptoSaid'. A law counts once. -/
mutual
def uptoBulk {H : Type} : DataW H → Nat
  | .lit (.string bytes) => bytes.length + 1
  | .lit _ => 1
  | .nil => 1
  | .ptr d => uptoBulk d + 1
  | .slice elems spare => uptoBulkAll elems + uptoBulkAll spare + 1
  | .agg parts => uptoBulkAll parts + 1
  | .iface _ d => uptoBulk d + 1
  | .map entries => uptoBulkEntries entries + 1
  | .held _ => 1
def uptoBulkAll {H : Type} : List (DataW H) → Nat
  | [] => 0
  | d :: r => uptoBulk d + uptoBulkAll r
def uptoBulkEntries {H : Type} : List (Lit × DataW H) → Nat
  | [] => 0
  | x :: r => uptoBulkEntry x + uptoBulkEntries r
def uptoBulkEntry {H : Type} : Lit × DataW H → Nat
  | (.string bytes, d) => bytes.length + uptoBulk d + 1
  | (_, d) => uptoBulk d + 1
 end
def uptoSmall : (H : Type) → List (DataW H) → Bool := fun _ ds => decide (uptoBulkAll ds ≤ 1048576)
def OpenSpec.upto (s : _root_.Go.ChangeSpec) : _root_.Go.OpenSpec := { _root_.Go.OpenSpec.ofChange s with cond := some uptoSmall }

/-- 'oxgalllaw05.GallLists', WHERE WHAT IT READS IS OF BULK AT MOST 1048576: true; the input reads as it did. -/
def gallListsUptoRow : OpenClaim := { program := "ytgphpjdchnfjlaadoor", sum := "48b1f12d285183a5fa349a9e31c77ec8806f7c70fb39797f6319bb28ca176264", func := "oxgall/oxgalllaw05.GallLists", spec := "gallLists", unfollowed := true, recurses := true, named := ["math/bits.deBruijn32tab", "math/bits.deBruijn64tab"], apart := false, laid := [("math/bits.deBruijn32tab", laid_math_bits_deBruijn32tab), ("math/bits.deBruijn64tab", laid_math_bits_deBruijn64tab)], narrowed := true }
def GallListsUptoSaid : Prop := gallListsUptoRow.holds Tryd.pinned (OpenSpec.upto gallListsSpec)

/-- 'oxgalllaw05.GallBlocks', WHERE WHAT IT READS IS OF BULK AT MOST 1048576: true; the input reads as it did. -/
def gallBlocksUptoRow : OpenClaim := { program := "ytgphpjdchnfjlaadoor", sum := "48b1f12d285183a5fa349a9e31c77ec8806f7c70fb39797f6319bb28ca176264", func := "oxgall/oxgalllaw05.GallBlocks", spec := "gallBlocks", unfollowed := true, recurses := true, named := ["math/bits.deBruijn32tab", "math/bits.deBruijn64tab"], apart := false, laid := [("math/bits.deBruijn32tab", laid_math_bits_deBruijn32tab), ("math/bits.deBruijn64tab", laid_math_bits_deBruijn64tab)], narrowed := true }
def GallBlocksUptoSaid : Prop := gallBlocksUptoRow.holds Tryd.pinned (OpenSpec.upto gallBlocksSpec)

/-- 'oxgalllaw05.GallPlaces', WHERE WHAT IT READS IS OF BULK AT MOST 1048576: true; the input reads as it did. -/
def gallPlacesUptoRow : OpenClaim := { program := "ytgphpjdchnfjlaadoor", sum := "48b1f12d285183a5fa349a9e31c77ec8806f7c70fb39797f6319bb28ca176264", func := "oxgall/oxgalllaw05.GallPlaces", spec := "gallPlaces", unfollowed := true, recurses := true, named := ["math/bits.deBruijn32tab", "math/bits.deBruijn64tab"], apart := false, laid := [("math/bits.deBruijn32tab", laid_math_bits_deBruijn32tab), ("math/bits.deBruijn64tab", laid_math_bits_deBruijn64tab)], narrowed := true }
def GallPlacesUptoSaid : Prop := gallPlacesUptoRow.holds Tryd.pinned (OpenSpec.upto gallPlacesSpec)

/-- 'oxgalllaw05.GallEither', WHERE WHAT IT READS IS OF BULK AT MOST 1048576: true; the input reads as it did. -/
def gallEitherUptoRow : OpenClaim := { program := "ytgphpjdchnfjlaadoor", sum := "48b1f12d285183a5fa349a9e31c77ec8806f7c70fb39797f6319bb28ca176264", func := "oxgall/oxgalllaw05.GallEither", spec := "gallEither", unfollowed := true, recurses := true, named := ["math/bits.deBruijn32tab", "math/bits.deBruijn64tab"], apart := false, laid := [("math/bits.deBruijn32tab", laid_math_bits_deBruijn32tab), ("math/bits.deBruijn64tab", laid_math_bits_deBruijn64tab)], narrowed := true }
def GallEitherUptoSaid : Prop := gallEitherUptoRow.holds Tryd.pinned (OpenSpec.upto gallEitherSpec)

/-- 'oxgalllaw05.GallWithin', WHERE WHAT IT READS IS OF BULK AT MOST 1048576: true; the input reads as it did. -/
def gallWithinUptoRow : OpenClaim := { program := "ytgphpjdchnfjlaadoor", sum := "48b1f12d285183a5fa349a9e31c77ec8806f7c70fb39797f6319bb28ca176264", func := "oxgall/oxgalllaw05.GallWithin", spec := "gallWithin", unfollowed := true, recurses := true, named := ["math/bits.deBruijn32tab", "math/bits.deBruijn64tab"], apart := false, laid := [("math/bits.deBruijn32tab", laid_math_bits_deBruijn32tab), ("math/bits.deBruijn64tab", laid_math_bits_deBruijn64tab)], narrowed := true }
def GallWithinUptoSaid : Prop := gallWithinUptoRow.holds Tryd.pinned (OpenSpec.upto gallWithinSpec)

/-- 'oxgalllaw05.GallMore', WHERE WHAT IT READS IS OF BULK AT MOST 1048576: true; the input reads as it did. -/
def gallMoreUptoRow : OpenClaim := { program := "ytgphpjdchnfjlaadoor", sum := "48b1f12d285183a5fa349a9e31c77ec8806f7c70fb39797f6319bb28ca176264", func := "oxgall/oxgalllaw05.GallMore", spec := "gallMore", unfollowed := true, recurses := true, named := ["math/bits.deBruijn32tab", "math/bits.deBruijn64tab"], apart := false, laid := [("math/bits.deBruijn32tab", laid_math_bits_deBruijn32tab), ("math/bits.deBruijn64tab", laid_math_bits_deBruijn64tab)], narrowed := true }
def GallMoreUptoSaid : Prop := gallMoreUptoRow.holds Tryd.pinned (OpenSpec.upto gallMoreSpec)

/-- 'oxgalllaw05.GallCounted', WHERE WHAT IT READS IS OF BULK AT MOST 1048576: true; the input reads as it did. -/
def gallCountedUptoRow : OpenClaim := { program := "ytgphpjdchnfjlaadoor", sum := "48b1f12d285183a5fa349a9e31c77ec8806f7c70fb39797f6319bb28ca176264", func := "oxgall/oxgalllaw05.GallCounted", spec := "gallCounted", unfollowed := true, recurses := true, named := ["math/bits.deBruijn32tab", "math/bits.deBruijn64tab"], apart := false, laid := [("math/bits.deBruijn32tab", laid_math_bits_deBruijn32tab), ("math/bits.deBruijn64tab", laid_math_bits_deBruijn64tab)], narrowed := true }
def GallCountedUptoSaid : Prop := gallCountedUptoRow.holds Tryd.pinned (OpenSpec.upto gallCountedSpec)

/-- 'oxgalllaw05.GallStronger', WHERE WHAT IT READS IS OF BULK AT MOST 1048576: true; the input reads as it did. -/
def gallStrongerUptoRow : OpenClaim := { program := "ytgphpjdchnfjlaadoor", sum := "48b1f12d285183a5fa349a9e31c77ec8806f7c70fb39797f6319bb28ca176264", func := "oxgall/oxgalllaw05.GallStronger", spec := "gallStronger", unfollowed := true, recurses := true, named := ["math/bits.deBruijn32tab", "math/bits.deBruijn64tab"], apart := false, laid := [("math/bits.deBruijn32tab", laid_math_bits_deBruijn32tab), ("math/bits.deBruijn64tab", laid_math_bits_deBruijn64tab)], narrowed := true }
def GallStrongerUptoSaid : Prop := gallStrongerUptoRow.holds Tryd.pinned (OpenSpec.upto gallStrongerSpec)

/-- 'oxgalllaw05.GallTurned', WHERE WHAT IT READS IS OF BULK AT MOST 1048576: true; the input reads as it did. -/
def gallTurnedUptoRow : OpenClaim := { program := "ytgphpjdchnfjlaadoor", sum := "48b1f12d285183a5fa349a9e31c77ec8806f7c70fb39797f6319bb28ca176264", func := "oxgall/oxgalllaw05.GallTurned", spec := "gallTurned", unfollowed := true, recurses := true, named := ["math/bits.deBruijn32tab", "math/bits.deBruijn64tab"], apart := false, laid := [("math/bits.deBruijn32tab", laid_math_bits_deBruijn32tab), ("math/bits.deBruijn64tab", laid_math_bits_deBruijn64tab)], narrowed := true }
def GallTurnedUptoSaid : Prop := gallTurnedUptoRow.holds Tryd.pinned (OpenSpec.upto gallTurnedSpec)

/-- 'oxgalllaw05.GallSwaps', WHERE WHAT IT READS IS OF BULK AT MOST 1048576: true; the input reads as it did. -/
def gallSwapsUptoRow : OpenClaim := { program := "ytgphpjdchnfjlaadoor", sum := "48b1f12d285183a5fa349a9e31c77ec8806f7c70fb39797f6319bb28ca176264", func := "oxgall/oxgalllaw05.GallSwaps", spec := "gallSwaps", unfollowed := true, recurses := true, named := ["math/bits.deBruijn32tab", "math/bits.deBruijn64tab"], apart := false, laid := [("math/bits.deBruijn32tab", laid_math_bits_deBruijn32tab), ("math/bits.deBruijn64tab", laid_math_bits_deBruijn64tab)], narrowed := true }
def GallSwapsUptoSaid : Prop := gallSwapsUptoRow.holds Tryd.pinned (OpenSpec.upto gallSwapsSpec)

/-- 'oxgalllaw05.GallKnown', WHERE WHAT IT READS IS OF BULK AT MOST 1048576: true; the input reads as it did. -/
def gallKnownUptoRow : OpenClaim := { program := "ytgphpjdchnfjlaadoor", sum := "48b1f12d285183a5fa349a9e31c77ec8806f7c70fb39797f6319bb28ca176264", func := "oxgall/oxgalllaw05.GallKnown", spec := "gallKnown", unfollowed := true, recurses := true, named := ["math/bits.deBruijn32tab", "math/bits.deBruijn64tab"], apart := false, laid := [("math/bits.deBruijn32tab", laid_math_bits_deBruijn32tab), ("math/bits.deBruijn64tab", laid_math_bits_deBruijn64tab)], narrowed := true }
def GallKnownUptoSaid : Prop := gallKnownUptoRow.holds Tryd.pinned (OpenSpec.upto gallKnownSpec)

end Rows
end Go.Proofs.YtgphpjdchnfjlaaDoor
