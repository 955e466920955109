/-
  DERIVED. GIVEN WITH THE SEED: THE CARDS: each row of YtgphpjdchnfjlaaDoorRows.lean that lists a variable, with what it lists TIED to the program's text (the seventh form; the later family's looks); each row that meets fmt, with fmt's text TOLD by the authors' own Lean function (tested against real Go, not proved from fmt's source: count such statements apart). THE CARD IS WHAT COUNTS. Prove the row's statement (the work); the ties are given (YtgphpjdchnfjlaaDoorTie.lean); close each card by the builder's one call (the guide's Derived/Test/ToyasCard.lean, 'card_holds'). Laid BY PROGRAM, IN A SANDBOX (cutbox-door.mjs). By AI agents, Wed Nov 11 2026. No macro, syntax, notation, axiom, sorry.
-/
import Derived.Test.YtgphpjdchnfjlaaDoorRows
import GoSem.ClaimSeven
namespace Go.Proofs.YtgphpjdchnfjlaaDoor
namespace Rows

/-- THE TIED CARD OF 'oxgalllaw05.GallLists'. -/
def gallListsCard : Claim7 := { stood := { row := gallListsRow, standIns := [], harness := (true, "5391bc36d3f32e4531338bbca1722ed77a5026a21751ee906f9f2b3c27ddc373"), looks := false }, kinds := [], alts := [], laidByText := true, laidKinds := [.data, .data], laidTests := true, laidLooks := .later }
def GallListsCardSaid : Prop := Claim7.holds Tryd.pinned (.plain (OpenSpec.ofChange gallListsSpec)) gallListsCard

/-- THE TIED CARD OF 'oxgalllaw05.GallBlocks'. -/
def gallBlocksCard : Claim7 := { stood := { row := gallBlocksRow, standIns := [], harness := (true, "5391bc36d3f32e4531338bbca1722ed77a5026a21751ee906f9f2b3c27ddc373"), looks := false }, kinds := [], alts := [], laidByText := true, laidKinds := [.data, .data], laidTests := true, laidLooks := .later }
def GallBlocksCardSaid : Prop := Claim7.holds Tryd.pinned (.plain (OpenSpec.ofChange gallBlocksSpec)) gallBlocksCard

/-- THE TIED CARD OF 'oxgalllaw05.GallPlaces'. -/
def gallPlacesCard : Claim7 := { stood := { row := gallPlacesRow, standIns := [], harness := (true, "5391bc36d3f32e4531338bbca1722ed77a5026a21751ee906f9f2b3c27ddc373"), looks := false }, kinds := [], alts := [], laidByText := true, laidKinds := [.data, .data], laidTests := true, laidLooks := .later }
def GallPlacesCardSaid : Prop := Claim7.holds Tryd.pinned (.plain (OpenSpec.ofChange gallPlacesSpec)) gallPlacesCard

/-- THE TIED CARD OF 'oxgalllaw05.GallEither'. -/
def gallEitherCard : Claim7 := { stood := { row := gallEitherRow, standIns := [], harness := (true, "5391bc36d3f32e4531338bbca1722ed77a5026a21751ee906f9f2b3c27ddc373"), looks := false }, kinds := [], alts := [], laidByText := true, laidKinds := [.data, .data], laidTests := true, laidLooks := .later }
def GallEitherCardSaid : Prop := Claim7.holds Tryd.pinned (.plain (OpenSpec.ofChange gallEitherSpec)) gallEitherCard

/-- THE TIED CARD OF 'oxgalllaw05.GallWithin'. -/
def gallWithinCard : Claim7 := { stood := { row := gallWithinRow, standIns := [], harness := (true, "5391bc36d3f32e4531338bbca1722ed77a5026a21751ee906f9f2b3c27ddc373"), looks := false }, kinds := [], alts := [], laidByText := true, laidKinds := [.data, .data], laidTests := true, laidLooks := .later }
def GallWithinCardSaid : Prop := Claim7.holds Tryd.pinned (.plain (OpenSpec.ofChange gallWithinSpec)) gallWithinCard

/-- THE TIED CARD OF 'oxgalllaw05.GallMore'. -/
def gallMoreCard : Claim7 := { stood := { row := gallMoreRow, standIns := [], harness := (true, "5391bc36d3f32e4531338bbca1722ed77a5026a21751ee906f9f2b3c27ddc373"), looks := false }, kinds := [], alts := [], laidByText := true, laidKinds := [.data, .data], laidTests := true, laidLooks := .later }
def GallMoreCardSaid : Prop := Claim7.holds Tryd.pinned (.plain (OpenSpec.ofChange gallMoreSpec)) gallMoreCard

/-- THE TIED CARD OF 'oxgalllaw05.GallCounted'. -/
def gallCountedCard : Claim7 := { stood := { row := gallCountedRow, standIns := [], harness := (true, "5391bc36d3f32e4531338bbca1722ed77a5026a21751ee906f9f2b3c27ddc373"), looks := false }, kinds := [], alts := [], laidByText := true, laidKinds := [.data, .data], laidTests := true, laidLooks := .later }
def GallCountedCardSaid : Prop := Claim7.holds Tryd.pinned (.plain (OpenSpec.ofChange gallCountedSpec)) gallCountedCard

/-- THE TIED CARD OF 'oxgalllaw05.GallStronger'. -/
def gallStrongerCard : Claim7 := { stood := { row := gallStrongerRow, standIns := [], harness := (true, "5391bc36d3f32e4531338bbca1722ed77a5026a21751ee906f9f2b3c27ddc373"), looks := false }, kinds := [], alts := [], laidByText := true, laidKinds := [.data, .data], laidTests := true, laidLooks := .later }
def GallStrongerCardSaid : Prop := Claim7.holds Tryd.pinned (.plain (OpenSpec.ofChange gallStrongerSpec)) gallStrongerCard

/-- THE TIED CARD OF 'oxgalllaw05.GallTurned'. -/
def gallTurnedCard : Claim7 := { stood := { row := gallTurnedRow, standIns := [], harness := (true, "5391bc36d3f32e4531338bbca1722ed77a5026a21751ee906f9f2b3c27ddc373"), looks := false }, kinds := [], alts := [], laidByText := true, laidKinds := [.data, .data], laidTests := true, laidLooks := .later }
def GallTurnedCardSaid : Prop := Claim7.holds Tryd.pinned (.plain (OpenSpec.ofChange gallTurnedSpec)) gallTurnedCard

/-- THE TIED CARD OF 'oxgalllaw05.GallSwaps'. -/
def gallSwapsCard : Claim7 := { stood := { row := gallSwapsRow, standIns := [], harness := (true, "5391bc36d3f32e4531338bbca1722ed77a5026a21751ee906f9f2b3c27ddc373"), looks := false }, kinds := [], alts := [], laidByText := true, laidKinds := [.data, .data], laidTests := true, laidLooks := .later }
def GallSwapsCardSaid : Prop := Claim7.holds Tryd.pinned (.plain (OpenSpec.ofChange gallSwapsSpec)) gallSwapsCard

/-- THE TIED CARD OF 'oxgalllaw05.GallKnown'. -/
def gallKnownCard : Claim7 := { stood := { row := gallKnownRow, standIns := [], harness := (true, "5391bc36d3f32e4531338bbca1722ed77a5026a21751ee906f9f2b3c27ddc373"), looks := false }, kinds := [], alts := [], laidByText := true, laidKinds := [.data, .data], laidTests := true, laidLooks := .later }
def GallKnownCardSaid : Prop := Claim7.holds Tryd.pinned (.plain (OpenSpec.ofChange gallKnownSpec)) gallKnownCard

/-- THE SECOND FORM's CARD OF 'oxgalllaw05.GallLists'. -/
def gallListsUptoCard : Claim7 := { stood := { row := gallListsUptoRow, standIns := [], harness := (true, "5391bc36d3f32e4531338bbca1722ed77a5026a21751ee906f9f2b3c27ddc373"), looks := false }, kinds := [], alts := [], laidByText := true, laidKinds := [.data, .data], laidTests := true, laidLooks := .later }
def GallListsUptoCardSaid : Prop := Claim7.holds Tryd.pinned (.plain (OpenSpec.upto gallListsSpec)) gallListsUptoCard

/-- THE SECOND FORM's CARD OF 'oxgalllaw05.GallBlocks'. -/
def gallBlocksUptoCard : Claim7 := { stood := { row := gallBlocksUptoRow, standIns := [], harness := (true, "5391bc36d3f32e4531338bbca1722ed77a5026a21751ee906f9f2b3c27ddc373"), looks := false }, kinds := [], alts := [], laidByText := true, laidKinds := [.data, .data], laidTests := true, laidLooks := .later }
def GallBlocksUptoCardSaid : Prop := Claim7.holds Tryd.pinned (.plain (OpenSpec.upto gallBlocksSpec)) gallBlocksUptoCard

/-- THE SECOND FORM's CARD OF 'oxgalllaw05.GallPlaces'. -/
def gallPlacesUptoCard : Claim7 := { stood := { row := gallPlacesUptoRow, standIns := [], harness := (true, "5391bc36d3f32e4531338bbca1722ed77a5026a21751ee906f9f2b3c27ddc373"), looks := false }, kinds := [], alts := [], laidByText := true, laidKinds := [.data, .data], laidTests := true, laidLooks := .later }
def GallPlacesUptoCardSaid : Prop := Claim7.holds Tryd.pinned (.plain (OpenSpec.upto gallPlacesSpec)) gallPlacesUptoCard

/-- THE SECOND FORM's CARD OF 'oxgalllaw05.GallEither'. -/
def gallEitherUptoCard : Claim7 := { stood := { row := gallEitherUptoRow, standIns := [], harness := (true, "5391bc36d3f32e4531338bbca1722ed77a5026a21751ee906f9f2b3c27ddc373"), looks := false }, kinds := [], alts := [], laidByText := true, laidKinds := [.data, .data], laidTests := true, laidLooks := .later }
def GallEitherUptoCardSaid : Prop := Claim7.holds Tryd.pinned (.plain (OpenSpec.upto gallEitherSpec)) gallEitherUptoCard

/-- THE SECOND FORM's CARD OF 'oxgalllaw05.GallWithin'. -/
def gallWithinUptoCard : Claim7 := { stood := { row := gallWithinUptoRow, standIns := [], harness := (true, "5391bc36d3f32e4531338bbca1722ed77a5026a21751ee906f9f2b3c27ddc373"), looks := false }, kinds := [], alts := [], laidByText := true, laidKinds := [.data, .data], laidTests := true, laidLooks := .later }
def GallWithinUptoCardSaid : Prop := Claim7.holds Tryd.pinned (.plain (OpenSpec.upto gallWithinSpec)) gallWithinUptoCard

/-- THE SECOND FORM's CARD OF 'oxgalllaw05.GallMore'. -/
def gallMoreUptoCard : Claim7 := { stood := { row := gallMoreUptoRow, standIns := [], harness := (true, "5391bc36d3f32e4531338bbca1722ed77a5026a21751ee906f9f2b3c27ddc373"), looks := false }, kinds := [], alts := [], laidByText := true, laidKinds := [.data, .data], laidTests := true, laidLooks := .later }
def GallMoreUptoCardSaid : Prop := Claim7.holds Tryd.pinned (.plain (OpenSpec.upto gallMoreSpec)) gallMoreUptoCard

/-- THE SECOND FORM's CARD OF 'oxgalllaw05.GallCounted'. -/
def gallCountedUptoCard : Claim7 := { stood := { row := gallCountedUptoRow, standIns := [], harness := (true, "5391bc36d3f32e4531338bbca1722ed77a5026a21751ee906f9f2b3c27ddc373"), looks := false }, kinds := [], alts := [], laidByText := true, laidKinds := [.data, .data], laidTests := true, laidLooks := .later }
def GallCountedUptoCardSaid : Prop := Claim7.holds Tryd.pinned (.plain (OpenSpec.upto gallCountedSpec)) gallCountedUptoCard

/-- THE SECOND FORM's CARD OF 'oxgalllaw05.GallStronger'. -/
def gallStrongerUptoCard : Claim7 := { stood := { row := gallStrongerUptoRow, standIns := [], harness := (true, "5391bc36d3f32e4531338bbca1722ed77a5026a21751ee906f9f2b3c27ddc373"), looks := false }, kinds := [], alts := [], laidByText := true, laidKinds := [.data, .data], laidTests := true, laidLooks := .later }
def GallStrongerUptoCardSaid : Prop := Claim7.holds Tryd.pinned (.plain (OpenSpec.upto gallStrongerSpec)) gallStrongerUptoCard

/-- THE SECOND FORM's CARD OF 'oxgalllaw05.GallTurned'. -/
def gallTurnedUptoCard : Claim7 := { stood := { row := gallTurnedUptoRow, standIns := [], harness := (true, "5391bc36d3f32e4531338bbca1722ed77a5026a21751ee906f9f2b3c27ddc373"), looks := false }, kinds := [], alts := [], laidByText := true, laidKinds := [.data, .data], laidTests := true, laidLooks := .later }
def GallTurnedUptoCardSaid : Prop := Claim7.holds Tryd.pinned (.plain (OpenSpec.upto gallTurnedSpec)) gallTurnedUptoCard

/-- THE SECOND FORM's CARD OF 'oxgalllaw05.GallSwaps'. -/
def gallSwapsUptoCard : Claim7 := { stood := { row := gallSwapsUptoRow, standIns := [], harness := (true, "5391bc36d3f32e4531338bbca1722ed77a5026a21751ee906f9f2b3c27ddc373"), looks := false }, kinds := [], alts := [], laidByText := true, laidKinds := [.data, .data], laidTests := true, laidLooks := .later }
def GallSwapsUptoCardSaid : Prop := Claim7.holds Tryd.pinned (.plain (OpenSpec.upto gallSwapsSpec)) gallSwapsUptoCard

/-- THE SECOND FORM's CARD OF 'oxgalllaw05.GallKnown'. -/
def gallKnownUptoCard : Claim7 := { stood := { row := gallKnownUptoRow, standIns := [], harness := (true, "5391bc36d3f32e4531338bbca1722ed77a5026a21751ee906f9f2b3c27ddc373"), looks := false }, kinds := [], alts := [], laidByText := true, laidKinds := [.data, .data], laidTests := true, laidLooks := .later }
def GallKnownUptoCardSaid : Prop := Claim7.holds Tryd.pinned (.plain (OpenSpec.upto gallKnownSpec)) gallKnownUptoCard
end Rows
end Go.Proofs.YtgphpjdchnfjlaaDoor
